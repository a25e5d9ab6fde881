/- FnFactsMore: whatever facts are drawn, more facts imply at least as much, and each fact of a list is implied by it. No conditions. -/
import Derived.Test.YtcpkmnlhenbnlaaFactI
import Derived.Test.YtcpkmnlhenbnlaaFactV
import Derived.Test.YtcpkmnlhenbnlaaDrawH
import Derived.Test.YtcpkmnlhenbnlaaRowAid
import Derived.Deep.RegionWith
namespace Go.Proofs.Ytcpkmnlhenbnlaa.lawFnFactsMore
open Go.ChangeShapes Go.WideShapes Go.ChangeAt Go.RowKit Go.Joins Go.Deep
open Go.ChangeMaps (open_string shut_string)
set_option linter.unusedVariables false

theorem facts_take {w : World} {A : Option Addr} {l : List Pl.Fct} (h : Facts w A l) (k : Nat) : Facts w A (l.take k) := fun hne => by
  obtain ⟨b, off, hA, hc⟩ := h (by rintro rfl; simp at hne)
  exact ⟨b, off, hA, fun i hi => by
    have := hc i (by rw [List.length_take] at hi; omega)
    rw [List.getElem_take]; exact this⟩
theorem fi_n {A : Option Addr} {d n : Nat} (l : List Pl.Fct) (f : Pl.Fct) (w : World) (hn : n = l.length) (hA : Facts w A l) (hl : l.length ≤ 1000) :
    Calls Try.prog 28 #[.slice A n d, fval f] w fun e w' => e = .returned (.bool (Pl.fimp l f)) ∧ Grow w w' := by
  subst hn
  exact FactsImply_c A d l f w hA (by omega)

set_option maxHeartbeats 1600000 in
theorem walk (A : Option Addr) (c n : Nat) (w : World) (hA : Bytes w A n) (hn : n ≤ 9223372036854775807) (hnc : n ≤ c) :
    Calls Try.prog 9 #[.slice A n c] w fun e w' => e = .returned (.bool true) ∧ Grow w w' := by
  by_cases hn20 : (1048576 : Int) < (n : Int)
  · go_enter Try.func9, Try.ntmps9
    go_wp2
    go_ret
    exact ⟨rfl, (by repeat (first | exact Grow.refl _ | assumption | refine Grow.alloc ?_ _ | refine Grow.drew ?_ | refine Grow.drewN ?_ _ | refine Grow.trans ?_ (by assumption) | refine Grow.below ?_ (by assumption) (by first | exact Nat.le_refl _ | omega)))⟩
  go_enter Try.func9, Try.ntmps9
  go_wp2_with fail
  refine (DrawFactsImply_c A n c _ hA hn hnc).mono ?_
  rintro e w1 ⟨l, A1, c1, f, hl, rfl, o1, g1⟩
  obtain ⟨x, a, b⟩ := f
  have F1 := OFacts.facts rfl o1
  have hlc : l.length ≤ c1 := by
    rcases o1.2 with ⟨hv, h0⟩ | ⟨g, cap, cur, hv, _, _, hle, _⟩
    · omega
    · injection hv with _ _ h3; omega
  clear hA hnc o1
  go_wp2_with fail
  refine (FactsImply_c _ _ l ⟨x, a, b⟩ _ (F1.grow (by repeat (first | exact Grow.refl _ | assumption | refine Grow.alloc ?_ _ | refine Grow.drew ?_ | refine Grow.drewN ?_ _ | refine Grow.trans ?_ (by assumption) | refine Grow.below ?_ (by assumption) (by first | exact Nat.le_refl _ | omega)))) (by omega)).mono ?_
  rintro e w2 ⟨rfl, g2⟩
  obtain ⟨q0, q1, q2⟩ := box3 g2
  go_wp2_with fail
  refine (sFactsImply_c _ _ l ⟨x, a, b⟩ _ (F1.grow (by repeat (first | exact Grow.refl _ | assumption | refine Grow.alloc ?_ _ | refine Grow.drew ?_ | refine Grow.drewN ?_ _ | refine Grow.trans ?_ (by assumption) | refine Grow.below ?_ (by assumption) (by first | exact Nat.le_refl _ | omega)))) (by omega)).mono ?_
  rintro e w3 ⟨rfl, g3⟩
  have p0 := g3.cell q0
  have p1 := g3.cell q1
  have p2 := g3.cell q2
  clear q0 q1 q2
  go_wp2_with fail
  refine (FactsValid_c _ _ l _ (F1.grow (by repeat (first | exact Grow.refl _ | assumption | refine Grow.alloc ?_ _ | refine Grow.drew ?_ | refine Grow.drewN ?_ _ | refine Grow.trans ?_ (by assumption) | refine Grow.below ?_ (by assumption) (by first | exact Nat.le_refl _ | omega)))) (by omega)).mono ?_
  rintro e w4 ⟨rfl, g4⟩
  have r0 := g4.cell p0
  have r1 := g4.cell p1
  have r2 := g4.cell p2
  have F4 : Facts w4 A1 l := F1.grow (by repeat (first | exact Grow.refl _ | assumption | refine Grow.alloc ?_ _ | refine Grow.drew ?_ | refine Grow.drewN ?_ _ | refine Grow.trans ?_ (by assumption) | refine Grow.below ?_ (by assumption) (by first | exact Nat.le_refl _ | omega)))
  have G4 : Grow w w4 := (by repeat (first | exact Grow.refl _ | assumption | refine Grow.alloc ?_ _ | refine Grow.drew ?_ | refine Grow.drewN ?_ _ | refine Grow.trans ?_ (by assumption) | refine Grow.below ?_ (by assumption) (by first | exact Nat.le_refl _ | omega)))
  clear p0 p1 p2 g1 g2 g3 g4 F1
  cases hf : Pl.fsv l with
  | false =>
    go_wp2_with fail
    refine (sFactsImply_c _ _ l ⟨x, a, b⟩ _ F4 (by omega)).mono ?_
    rintro e w5 ⟨rfl, g5⟩
    go_wp2_with fail
    go_ret
    exact ⟨by simp, (by repeat (first | exact Grow.refl _ | assumption | refine Grow.alloc ?_ _ | refine Grow.drew ?_ | refine Grow.drewN ?_ _ | refine Grow.trans ?_ (by assumption) | refine Grow.below ?_ (by assumption) (by first | exact Nat.le_refl _ | omega)))⟩
  | true =>
    have HF := Lib.hid hf
    clear hf
    generalize ho : Pl.fimp l ⟨x, a, b⟩ = o
    have HO := Lib.hid ho
    clear ho
    go_wp2_with fail
    go_loopw [6] (fun i wr => ∃ k : Nat, k ≤ l.length ∧ i = .int .i64 k ∧ Grow w4 wr) (fun i _ => l.length - (intOf i).toNat)
    case atStart => exact ⟨0, by omega, rfl, Grow.refl _⟩
    case round =>
      obtain ⟨k, hk, rfl, hg⟩ := hrel
      by_cases hlt : k < l.length
      · obtain ⟨bb, off, rfl, c0, c1', c2⟩ := (F4.grow hg).at_ hlt
        have s0 := hg.cell r0
        have s1 := hg.cell r1
        have s2 := hg.cell r2
        have HS := Lib.hid (Pl.self HF.out (List.getElem_mem hlt))
        have hmo := fun h => (HO.out).symm.trans (Pl.more (f := ⟨x, a, b⟩) HF.out k h)
        have i0 : (0 : Int) ≤ (k : Int) := by omega
        have i1 : (k : Int) < (l.length : Int) := by omega
        have i2 : (k : Int) ≤ (c1 : Int) := by omega
        have Fk : Facts wr (some ⟨bb, off, none⟩) l := F4.grow hg
        cases hb : Pl.fimp (l.take k) ⟨x, a, b⟩ with
        | true =>
          obtain rfl : o = true := hmo hb
          have HB := Lib.hid hb
          clear hb hmo
          go_wp2_with fail
          go_region_held3 (fun W => W.cell? ⟨bb, off + k * 3, none⟩ = some (.bool l[k].e) ∧ W.cell? ⟨bb, off + k * 3 + 1, none⟩ = some (.int .i64 l[k].a) ∧ W.cell? ⟨bb, off + k * 3 + 2, none⟩ = some (.int .i64 l[k].b) ∧ W.cell? ⟨w1.heap.size, 0, none⟩ = some (.bool x) ∧ W.cell? ⟨w1.heap.size, 1, none⟩ = some (.int .i64 a) ∧ W.cell? ⟨w1.heap.size, 2, none⟩ = some (.int .i64 b))
            (first | go_keep | (go_split_ands; exact ⟨g6.cell (by assumption), g6.cell (by assumption), g6.cell (by assumption), g6.cell (by assumption), g6.cell (by assumption), g6.cell (by assumption)⟩) | (go_split_ands; exact ⟨g5.cell (by assumption), g5.cell (by assumption), g5.cell (by assumption), g5.cell (by assumption), g5.cell (by assumption), g5.cell (by assumption)⟩))
            (first
              | (go_at_call 28; (with_reducible refine (FactsImply_c (some ⟨bb, off, none⟩) c1 l l[k] _ (Fk.grow (by repeat (first | exact Grow.refl _ | assumption | refine Grow.alloc ?_ _ | refine Grow.drew ?_ | refine Grow.drewN ?_ _ | refine Grow.trans ?_ (by assumption) | refine Grow.below ?_ (by assumption) (by first | exact Nat.le_refl _ | omega)))) (by omega)).mono ?_); rintro e w5 ⟨rfl, g5⟩; rw [HS.out])
              | (go_at_call 28; (with_reducible refine (fi_n (A := some ⟨bb, off, none⟩) (d := c1) (n := k) (l.take k) ⟨x, a, b⟩ _ (by rw [List.length_take]; omega) (facts_take (Fk.grow (by repeat (first | exact Grow.refl _ | assumption | refine Grow.alloc ?_ _ | refine Grow.drew ?_ | refine Grow.drewN ?_ _ | refine Grow.trans ?_ (by assumption) | refine Grow.below ?_ (by assumption) (by first | exact Nat.le_refl _ | omega)))) k) (by rw [List.length_take]; omega)).mono ?_); rintro e w6 ⟨rfl, g6⟩; rw [HB.out]))
          go_wp2
          go_roundw
          case rel => exact ⟨k + 1, by omega, by go_num, (by repeat (first | exact Grow.refl _ | assumption | refine Grow.alloc ?_ _ | refine Grow.drew ?_ | refine Grow.drewN ?_ _ | refine Grow.trans ?_ (by assumption) | refine Grow.below ?_ (by assumption) (by first | exact Nat.le_refl _ | omega)))⟩
          case measure => simp [intOf]; omega
        | false =>
          have HB := Lib.hid hb
          clear hb hmo
          go_wp2_with fail
          first | (go_region_with (first
            | (go_at_call 28; (with_reducible refine (FactsImply_c (some ⟨bb, off, none⟩) c1 l l[k] _ (Fk.grow (by repeat (first | exact Grow.refl _ | assumption | refine Grow.alloc ?_ _ | refine Grow.drew ?_ | refine Grow.drewN ?_ _ | refine Grow.trans ?_ (by assumption) | refine Grow.below ?_ (by assumption) (by first | exact Nat.le_refl _ | omega)))) (by omega)).mono ?_); rintro e w5 ⟨rfl, g5⟩; rw [HS.out]; have t0 := g5.cell s0; have t1 := g5.cell s1; have t2 := g5.cell s2)
            | (go_at_call 28; (with_reducible refine (fi_n (A := some ⟨bb, off, none⟩) (d := c1) (n := k) (l.take k) ⟨x, a, b⟩ _ (by rw [List.length_take]; omega) (facts_take (Fk.grow (by repeat (first | exact Grow.refl _ | assumption | refine Grow.alloc ?_ _ | refine Grow.drew ?_ | refine Grow.drewN ?_ _ | refine Grow.trans ?_ (by assumption) | refine Grow.below ?_ (by assumption) (by first | exact Nat.le_refl _ | omega)))) k) (by rw [List.length_take]; omega)).mono ?_); rintro e w6 ⟨rfl, g6⟩; rw [HB.out]))) | fail
          all_goals
            go_wp2
            go_roundw
            case rel => exact ⟨k + 1, by omega, by go_num, (by repeat (first | exact Grow.refl _ | assumption | refine Grow.alloc ?_ _ | refine Grow.drew ?_ | refine Grow.drewN ?_ _ | refine Grow.trans ?_ (by assumption) | refine Grow.below ?_ (by assumption) (by first | exact Nat.le_refl _ | omega)))⟩
            case measure => simp [intOf]; omega
      · go_wp2
        go_ret
        exact ⟨rfl, (by repeat (first | exact Grow.refl _ | assumption | refine Grow.alloc ?_ _ | refine Grow.drew ?_ | refine Grow.drewN ?_ _ | refine Grow.trans ?_ (by assumption) | refine Grow.below ?_ (by assumption) (by first | exact Nat.le_refl _ | omega)))⟩

set_option maxRecDepth 100000 in
theorem lifted (os : Os) (started : os.Started) (H : Type) (enc : TypeId × Value → H) :
    ReturnsInHanded {} Try.checked os 9 .any (Rows.fnFactsMoreSpec.pre6 enc Try.prog Try.f9 Rows.fnFactsMoreRow.domain false) (Rows.fnFactsMoreSpec.post enc Try.prog Try.f9 false true false false) := by
  refine returnsInHanded_of_change (C := Try.checked) own_knob started (by kernel_rfl) Try.func9
    (ChangeSpec.witness6 (enc := enc) (C := Try.checked) false ⟨#[], #[.slice none 0 0], []⟩ 8 (by kernel_rfl) (by kernel_rfl) (by kernel_rfl) (by kernel_rfl)) ?_
  intro W base args ds gs before hval0 hW hcnd _
  have hval : ∀ (j : Nat) t v, Try.f9.params[j]? = some t → args[j]? = some v → Value.okWide Try.prog W .any base t v := hval0
  have hW' := hW
  obtain ⟨p, q, hA0, hV, rfl, hfz, hnd⟩ := hW
  have hA : DataW.TrodAll enc Try.prog W 0 (fun _ => true) true Try.f9.params.toList args.toList ds p := hA0
  rw [Try.params9] at hA hval
  obtain ⟨v0, vs0, d0, ds0, p0, q0, hargs, rfl, rfl, h0, r0⟩ := trodAll_cons hA
  obtain ⟨rfl, rfl, rfl⟩ := trodAll_nil r0
  obtain rfl : args = #[v0] := by cases args; simp_all
  obtain ⟨rfl, rfl⟩ := trodVars_none hV
  have k0 := h0
  have lt0 : ∀ x ∈ p0, x.block < W.heap.size := by obtain ⟨m, hm⟩ := k0; exact DataW.trod_lt m _ _ _ hm
  obtain ⟨a0, len0, cap0, rfl⟩ := okWide_slice Try.underlying43 (hval 0 43 v0 rfl rfl)
  obtain ⟨hb0, w0, hc0⟩ : len0 ≤ 9223372036854775807 ∧ Bytes W a0 len0 ∧ len0 ≤ cap0 := by
    obtain ⟨fuel, hf⟩ := h0
    exact open_bytesL (by simpa [Value.cells] using hf)
  clear hA0 hval0
  refine (walk a0 cap0 len0 W w0 hb0 hc0).mono fun e W' ⟨he, bel⟩ => ?_
  subst he
  exact ⟨_, rfl, _, _, _, [], _, [], hW', trodAll_mk1 (shut_bool Try.underlying4 _), (trodAll_cons_mk (Below.trod laid_out (by kernel_rfl) (of_decide_eq_true (by kernel_rfl)) k0 bel lt0) trodAll_mk0), rfl, bel.frame _, fun h => by cases h⟩

theorem over : Rows.fnFactsMoreRow.holds Try.pinned (OpenSpec.ofChange Rows.fnFactsMoreSpec) :=
  OpenClaim.holds_of_wide 9 Try.f9 rfl rfl rfl rfl rfl rfl rfl ⟨rfl, rfl, rfl, rfl, rfl⟩ rfl rfl rfl rfl rfl (by kernel_rfl) Try.func9 (by kernel_rfl)
    (of_decide_eq_true (by kernel_rfl)) (by unfold Func.isWrapper; first | (rw [if_pos (by decide +kernel)]; kernel_rfl) | (rw [if_neg (by decide +kernel)]; exact ⟨rfl, rfl⟩))
    (fun os started H enc _ => lifted os started H enc)

/-- The statement. -/
theorem proved : Rows.FnFactsMoreSaid := over
#print axioms proved

end Go.Proofs.Ytcpkmnlhenbnlaa.lawFnFactsMore
