/- FnExactFactsImply: for every list of facts and every fact the program's FactsImply answers as the reference does and leaves its arguments alone. No conditions. -/
import Derived.Test.YtcpkmnlhenbnlaaFactI
import Derived.Test.YtcpkmnlhenbnlaaFactV
import Derived.Test.YtcpkmnlhenbnlaaAid
import Derived.Test.YtcpkmnlhenbnlaaRowAid
namespace Go.Proofs.Ytcpkmnlhenbnlaa.lawFnExactFactsImply
open Go.ChangeShapes Go.WideShapes Go.ChangeAt Go.RowKit Go.Joins Go.Deep
open Go.ChangeMaps (open_string shut_string)
set_option linter.unusedVariables false

set_option maxHeartbeats 1600000 in
theorem walk (A : Option Addr) (c : Nat) (l : List Pl.Fct) (f : Pl.Fct) (w : World) (hA : Facts w A l) (hn : l.length ≤ 9223372036854775807) (hf : True) :
    Calls Try.prog 6 #[.slice A l.length c, fval f] w fun e w' => e = .returned (.bool true) ∧ Grow w w' := by
  obtain ⟨x, a, b⟩ := f
  clear hf
  by_cases h20 : l.length ≤ 1048576
  · have hs := Lib.hid (szv_pos (n := l.length) (left := 1048576) (by omega))
    go_enter Try.func6, Try.ntmps6
    go_wp2_with fail
    refine (szFactS_c _ _ _ _ _ (by omega) (by omega) (by omega)).mono ?_
    rintro e w0 ⟨rfl, rfl⟩
    rw [hs.out]
    go_wp2_with fail
    go_region_held3 (fun W => W.cell? ⟨w.heap.size, 0, none⟩ = some (.bool x) ∧ W.cell? ⟨w.heap.size, 1, none⟩ = some (.int .i64 a) ∧ W.cell? ⟨w.heap.size, 2, none⟩ = some (.int .i64 b))
      (first | go_keep | (go_split_ands; exact ⟨g1.cell (by assumption), g1.cell (by assumption), g1.cell (by assumption)⟩) | (go_split_ands; exact ⟨g2.cell (by assumption), g2.cell (by assumption), g2.cell (by assumption)⟩) | (go_split_ands; exact ⟨g3.cell (by assumption), g3.cell (by assumption), g3.cell (by assumption)⟩))
      (first
        | (go_at_call 17; refine (toFactS_c _ _ l _ (hA.grow (by repeat (first | exact Grow.refl _ | assumption | refine Grow.alloc ?_ _ | refine Grow.drew ?_ | refine Grow.drewN ?_ _ | refine Grow.trans ?_ (by assumption) | refine Grow.below ?_ (by assumption) (by first | exact Nat.le_refl _ | omega)))) h20).mono ?_; rintro e w1 ⟨A1, c1, rfl, o1, g1⟩)
        | (go_at_call 27; refine (toFact_c ⟨x, a, b⟩ _).mono ?_; rintro e w2 ⟨rfl, g2⟩)
        | (go_at_call 26; refine (sFactsImply_c _ _ l ⟨x, a, b⟩ _ ((OFacts.facts rfl o1).grow (by repeat (first | exact Grow.refl _ | assumption | refine Grow.alloc ?_ _ | refine Grow.drew ?_ | refine Grow.drewN ?_ _ | refine Grow.trans ?_ (by assumption) | refine Grow.below ?_ (by assumption) (by first | exact Nat.le_refl _ | omega)))) h20).mono ?_; rintro e w3 ⟨rfl, g3⟩))
    have hb : Grow (w.alloc (.cells #[.bool x, .int .i64 a, .int .i64 b] 35)) w3 := (by repeat (first | exact Grow.refl _ | assumption | refine Grow.alloc ?_ _ | refine Grow.drew ?_ | refine Grow.drewN ?_ _ | refine Grow.trans ?_ (by assumption) | refine Grow.below ?_ (by assumption) (by first | exact Nat.le_refl _ | omega)))
    have hw3 : Grow w w3 := (by repeat (first | exact Grow.refl _ | assumption | refine Grow.alloc ?_ _ | refine Grow.drew ?_ | refine Grow.drewN ?_ _ | refine Grow.trans ?_ (by assumption) | refine Grow.below ?_ (by assumption) (by first | exact Nat.le_refl _ | omega)))
    clear g1 g2 g3 o1
    go_wp2_with fail
    refine (toFactS_c _ _ l _ (hA.grow hw3) h20).mono ?_
    rintro e w4 ⟨A4, c4, rfl, o4, g4⟩
    obtain ⟨q0, q1, q2⟩ := box3 (hb.trans g4)
    go_wp2_with fail
    refine (toFact_c ⟨x, a, b⟩ _).mono ?_
    rintro e w5 ⟨rfl, g5⟩
    go_wp2_with fail
    refine (FactsImply_c _ _ l ⟨x, a, b⟩ _ ((OFacts.facts rfl o4).grow g5) (by omega)).mono ?_
    rintro e w6 ⟨rfl, g6⟩
    go_wp2_with fail
    refine (toFactS_c _ _ l _ (hA.grow (by repeat (first | exact Grow.refl _ | assumption | refine Grow.alloc ?_ _ | refine Grow.drew ?_ | refine Grow.drewN ?_ _ | refine Grow.trans ?_ (by assumption) | refine Grow.below ?_ (by assumption) (by first | exact Nat.le_refl _ | omega)))) h20).mono ?_
    rintro e w7 ⟨A7, c7, rfl, o7, g7⟩
    go_wp2_with fail
    refine (eqFactS_c _ _ _ _ l l _ ((OFacts.facts rfl o4).grow (by repeat (first | exact Grow.refl _ | assumption | refine Grow.alloc ?_ _ | refine Grow.drew ?_ | refine Grow.drewN ?_ _ | refine Grow.trans ?_ (by assumption) | refine Grow.below ?_ (by assumption) (by first | exact Nat.le_refl _ | omega)))) (OFacts.facts rfl o7) (by omega) (by omega)).mono ?_
    rintro e w8 ⟨rfl, g8⟩
    go_wp2_with fail
    go_ret
    exact ⟨rfl, (by repeat (first | exact Grow.refl _ | assumption | refine Grow.alloc ?_ _ | refine Grow.drew ?_ | refine Grow.drewN ?_ _ | refine Grow.trans ?_ (by assumption) | refine Grow.below ?_ (by assumption) (by first | exact Nat.le_refl _ | omega)))⟩
  · have hs := Lib.hid (szv_neg (n := l.length) (left := 1048576) (by omega))
    go_enter Try.func6, Try.ntmps6
    go_wp2_with (go_at_call 15; refine (szFactS_c _ _ _ _ _ hn (by omega) (by omega)).mono ?_; rintro e w' ⟨rfl, rfl⟩; rw [hs.out])
    go_ret
    exact ⟨rfl, (by repeat (first | exact Grow.refl _ | assumption | refine Grow.alloc ?_ _ | refine Grow.drew ?_ | refine Grow.drewN ?_ _ | refine Grow.trans ?_ (by assumption) | refine Grow.below ?_ (by assumption) (by first | exact Nat.le_refl _ | omega)))⟩

set_option maxRecDepth 100000 in
theorem lifted (os : Os) (started : os.Started) (H : Type) (enc : TypeId × Value → H) :
    ReturnsInHanded {} Try.checked os 6 .any (Rows.fnExactFactsImplySpec.pre6 enc Try.prog Try.f6 Rows.fnExactFactsImplyRow.domain false) (Rows.fnExactFactsImplySpec.post enc Try.prog Try.f6 false true false false) := by
  refine returnsInHanded_of_change (C := Try.checked) own_knob started (by kernel_rfl) Try.func6
    (ChangeSpec.witness6 (enc := enc) (C := Try.checked) false ⟨#[], #[.slice none 0 0, .agg #[.bool false, .int .i64 0, .int .i64 0]], []⟩ 8 (by kernel_rfl) (by kernel_rfl) (by kernel_rfl) (by kernel_rfl)) ?_
  intro W base args ds gs before hval0 hW hcnd _
  have hval : ∀ (j : Nat) t v, Try.f6.params[j]? = some t → args[j]? = some v → Value.okWide Try.prog W .any base t v := hval0
  have hW' := hW
  obtain ⟨p, q, hA0, hV, rfl, hfz, hnd⟩ := hW
  have hA : DataW.TrodAll enc Try.prog W 0 (fun _ => true) true Try.f6.params.toList args.toList ds p := hA0
  rw [Try.params6] at hA hval
  obtain ⟨v0, vs0, d0, ds0, p0, q0, hargs, rfl, rfl, h0, r0⟩ := trodAll_cons hA
  obtain ⟨v1, vs1, d1, ds1, p1, q1, rfl, rfl, rfl, h1, r1⟩ := trodAll_cons r0
  obtain ⟨rfl, rfl, rfl⟩ := trodAll_nil r1
  obtain rfl : args = #[v0, v1] := by cases args; simp_all
  obtain ⟨rfl, rfl⟩ := trodVars_none hV
  have k0 := h0
  have lt0 : ∀ x ∈ p0, x.block < W.heap.size := by obtain ⟨m, hm⟩ := k0; exact DataW.trod_lt m _ _ _ hm
  obtain ⟨a0, len0, cap0, rfl⟩ := okWide_slice Try.underlying22 (hval 0 22 v0 rfl rfl)
  obtain ⟨l0, hl0, hb0, w0⟩ : ∃ l : List Pl.Fct, l.length = len0 ∧ len0 ≤ 9223372036854775807 ∧ Facts W a0 l := by
    obtain ⟨fuel, hf⟩ := h0
    exact open_factsL (by simpa [Value.cells] using hf)
  subst hl0
  have k1 := h1
  have lt1 : ∀ x ∈ p1, x.block < W.heap.size := by obtain ⟨m, hm⟩ := k1; exact DataW.trod_lt m _ _ _ hm
  obtain ⟨f1, rfl, hb1⟩ := open_factV (hval 1 35 v1 rfl rfl) h1
  clear hA0 hval0
  refine (walk a0 cap0 l0 f1 W w0 hb0 hb1).mono fun e W' ⟨he, bel⟩ => ?_
  subst he
  exact ⟨_, rfl, _, _, _, [], _, [], hW', trodAll_mk1 (shut_bool Try.underlying4 _), (trodAll_cons_mk (Below.trod laid_out (by kernel_rfl) (of_decide_eq_true (by kernel_rfl)) k0 bel lt0) (trodAll_cons_mk (Below.trod laid_out (by kernel_rfl) (of_decide_eq_true (by kernel_rfl)) k1 bel lt1) trodAll_mk0)), rfl, bel.frame _, fun h => by cases h⟩

theorem over : Rows.fnExactFactsImplyRow.holds Try.pinned (OpenSpec.ofChange Rows.fnExactFactsImplySpec) :=
  OpenClaim.holds_of_wide 6 Try.f6 rfl rfl rfl rfl rfl rfl rfl ⟨rfl, rfl, rfl, rfl, rfl⟩ rfl rfl rfl rfl rfl (by kernel_rfl) Try.func6 (by kernel_rfl)
    (of_decide_eq_true (by kernel_rfl)) (by unfold Func.isWrapper; first | (rw [if_pos (by decide +kernel)]; kernel_rfl) | (rw [if_neg (by decide +kernel)]; exact ⟨rfl, rfl⟩))
    (fun os started H enc _ => lifted os started H enc)

/-- The statement. -/
theorem proved : Rows.FnExactFactsImplySaid := over
#print axioms proved

end Go.Proofs.Ytcpkmnlhenbnlaa.lawFnExactFactsImply
