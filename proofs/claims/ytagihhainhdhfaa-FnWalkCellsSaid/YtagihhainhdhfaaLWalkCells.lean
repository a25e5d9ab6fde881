/- FnWalkCells: whatever state and addresses are drawn, a way is a chain of different cells. No conditions. -/
import Derived.Test.YtagihhainhdhfaaSt9
import Derived.Test.YtagihhainhdhfaaDrawS2
import Derived.Test.YtagihhainhdhfaaPlainLaws
import Derived.Test.YtagihhainhdhfaaRowAid
namespace Go.Proofs.Ytagihhainhdhfaa.lawFnWalkCells
open Go.ChangeShapes Go.WideShapes Go.ChangeAt Go.RowKit Go.Joins Go.Deep
open Go.ChangeMaps (open_string shut_string)
set_option linter.unusedVariables false

set_option maxRecDepth 100000 in
set_option maxHeartbeats 6400000 in
theorem walk (A : Option Addr) (c n : Nat) (w : World) (hA : Bytes w A n) (hn : n ≤ 9223372036854775807) (hnc : n ≤ c) :
    Calls Try.prog 8 #[.slice A n c] w fun e w' => e = .returned (.bool true) ∧ Grow w w' := by
  by_cases hn20 : (1048576 : Int) < (n : Int)
  · go_enter Try.func8, Try.ntmps8
    go_wp2
    go_ret
    exact ⟨rfl, (by repeat (first | exact Grow.refl _ | assumption | refine Grow.alloc ?_ _ | refine Grow.drew ?_ | refine Grow.drewN ?_ _ | refine Grow.trans ?_ (by assumption) | refine Grow.below ?_ (by assumption) (by first | exact Nat.le_refl _ | omega)))⟩
  go_enter Try.func8, Try.ntmps8
  go_wp2_with fail
  refine (DrawWalkCells_c A n c _ hA hn hnc).mono ?_
  rintro e w1 ⟨A1, B1, c1, d1, v, h, a, b, rfl, o1, hl, hb_a, hb_b, g1⟩
  have S := o1.st
  have G : Grow w w1 := g1
  obtain ⟨hl1, hl2⟩ := hl
  clear o1 g1 hA hnc
  obtain ⟨⟨l, rb⟩, hr⟩ : ∃ r, r = Pl.walkC ⟨v, h⟩ a b := ⟨_, rfl⟩
  have hll : l.length ≤ 8 := by have hh := Pl.walkC_len ⟨v, h⟩ a b; rw [← hr] at hh; exact hh
  have CI := Lib.hid (show ∀ W, Sts W A1 B1 ⟨v, h⟩ → Calls Try.prog 22 #[sval A1 B1 c1 d1 ⟨v, h⟩, .int .i64 a, .int .i64 b] W (RWay W (l, rb)) from fun W k => by have kk := WalkCells_c A1 B1 c1 d1 ⟨v, h⟩ a b W k (by show v.length ≤ _; omega) (by show h.length ≤ _; omega); rw [← hr] at kk; exact kk)
  have CS := Lib.hid (show ∀ W, Sts W A1 B1 ⟨v, h⟩ → Calls Try.prog 23 #[sval A1 B1 c1 d1 ⟨v, h⟩, .int .i64 a, .int .i64 b] W (RWay W (l, rb)) from fun W k => by have kk := sWalkCells_c A1 B1 c1 d1 ⟨v, h⟩ a b W k (by show v.length ≤ _; omega) (by show h.length ≤ _; omega); rw [← hr] at kk; exact kk)
  have HR := Lib.hid hr
  clear hr
  go_wp2_with fail
  refine (CI.out _ (S.grow (by repeat (first | exact Grow.refl _ | assumption | refine Grow.alloc ?_ _ | refine Grow.drew ?_ | refine Grow.drewN ?_ _ | refine Grow.trans ?_ (by assumption) | refine Grow.below ?_ (by assumption) (by first | exact Nat.le_refl _ | omega))))).mono ?_
  rintro e w_1 ⟨A2, c2, rfl, o2, g_1⟩
  have q : Grow w1 w_1 := (by repeat (first | exact Grow.refl _ | assumption | refine Grow.alloc ?_ _ | refine Grow.drew ?_ | refine Grow.drewN ?_ _ | refine Grow.trans ?_ (by assumption) | refine Grow.below ?_ (by assumption) (by first | exact Nat.le_refl _ | omega)))
  have ys := (Box2.new w1 25 (.slice A1 v.length c1) (.slice B1 h.length d1)).grow g_1
  have zw_1 := ys.lt
  replace S := S.grow q
  replace G := G.trans q
  clear q g_1
  have U := OInts.ints rfl o2
  clear o2
  obtain ⟨ys0, ys1, _, _⟩ := ys.facts
  have ys2 := ys.lt
  go_wp2_with fail
  refine (CS.out _ S).mono ?_
  rintro e w_2 ⟨A3, c3, rfl, o3, g_2⟩
  clear ys0 ys1 ys2
  have q : Grow w_1 w_2 := (by repeat (first | exact Grow.refl _ | assumption | refine Grow.alloc ?_ _ | refine Grow.drew ?_ | refine Grow.drewN ?_ _ | refine Grow.trans ?_ (by assumption) | refine Grow.below ?_ (by assumption) (by first | exact Nat.le_refl _ | omega)))
  have zw_2 := q.le
  replace ys := ys.grow q
  replace S := S.grow q
  replace U := U.grow q
  replace G := G.trans q
  clear q g_2
  have U3 := OInts.ints rfl o3
  clear o3
  go_wp2_with fail
  refine (slInts_c A2 A3 c2 c3 l l _ U U3 (by omega) (by omega)).mono ?_
  rintro e w_3 ⟨rfl, g_3⟩
  have q : Grow w_2 w_3 := (by repeat (first | exact Grow.refl _ | assumption | refine Grow.alloc ?_ _ | refine Grow.drew ?_ | refine Grow.drewN ?_ _ | refine Grow.trans ?_ (by assumption) | refine Grow.below ?_ (by assumption) (by first | exact Nat.le_refl _ | omega)))
  have zw_3 := q.le
  replace ys := ys.grow q
  replace S := S.grow q
  replace U := U.grow q
  replace U3 := U3.grow q
  replace G := G.trans q
  clear q g_3
  clear CI CS
  cases rb with
  | false =>
    go_wp2_with fail
    refine (slInts_c A2 A3 c2 c3 l l _ U U3 (by omega) (by omega)).mono ?_
    rintro e w_4 ⟨rfl, g_4⟩
    have q : Grow w_3 w_4 := (by repeat (first | exact Grow.refl _ | assumption | refine Grow.alloc ?_ _ | refine Grow.drew ?_ | refine Grow.drewN ?_ _ | refine Grow.trans ?_ (by assumption) | refine Grow.below ?_ (by assumption) (by first | exact Nat.le_refl _ | omega)))
    have zw_4 := q.le
    replace ys := ys.grow q
    replace S := S.grow q
    replace U := U.grow q
    replace U3 := U3.grow q
    replace G := G.trans q
    clear q g_4
    go_wp2_with fail
    go_ret
    exact ⟨by simp, G⟩
  | true =>
    have L := Lib.hid (Pl.way_law HR.out)
    clear U3
    have C1 := Lib.hid (show ∀ (i : Int) (r : Int × Bool) W, Pl.readC ⟨v, h⟩ i = r → Sts W A1 B1 ⟨v, h⟩ → Calls Try.prog 18 #[sval A1 B1 c1 d1 ⟨v, h⟩, .int .i64 i] W (fun e w' => e = .returned (.tuple #[.int .i64 r.1, .bool r.2]) ∧ Grow W w') from fun i r W p0 k => by have kk := ReadCell_c A1 B1 c1 d1 ⟨v, h⟩ i W k (by show v.length ≤ _; omega) (by show h.length ≤ _; omega); rw [p0] at kk; exact kk)
    go_wp2_with fail
    go_loopw [11, 10] (fun i x wr => ∃ k : Nat, k ≤ l.length ∧ i = .int .i64 k ∧ x = .int .i64 (Pl.it h k a) ∧ Grow w wr ∧ Sts wr A1 B1 ⟨v, h⟩ ∧ Ints wr A2 l ∧ Box2 wr w1.heap.size 25 (.slice A1 v.length c1) (.slice B1 h.length d1)) (fun i _ _ => l.length - (intOf i).toNat)
    case atStart => exact ⟨0, Nat.zero_le _, rfl, rfl, G, S, U, ys⟩
    case round =>
      clear G S U ys
      obtain ⟨k, hk, rfl, rfl, G, S, U, ys⟩ := hrel
      by_cases hkl : k < l.length
      · have hk0 : (0 : Int) ≤ (k : Int) := by omega
        have hk1 : (k : Int) < (l.length : Int) := by omega
        have HY := Lib.hid (L.out.rd k hkl)
        have HE := Lib.hid (L.out.at_ k hkl)
        have hne := L.out.ne k hkl
        have b1 : (Pl.it h k a == b) = false := by simp [hne]
        have b2 : (l[k] != Pl.it h k a) = false := by simp [HE.out]
        clear hne
        obtain ⟨bu, ou, rfl, cu⟩ := U.at_ hkl
        obtain ⟨ys0, ys1, _, _⟩ := ys.facts
        have ys2 := ys.lt
        go_wp2_with fail
        go_region_held3 (fun W => W.cell? ⟨w1.heap.size, 0, none⟩ = some (.slice A1 v.length c1) ∧ W.cell? ⟨w1.heap.size, 1, none⟩ = some (.slice B1 h.length d1) ∧ W.cell? ⟨bu, ou + k, none⟩ = some (.int .i64 l[k]))
          (first | go_keep | (go_split_ands; exact ⟨g_4.cell (by assumption), g_4.cell (by assumption), g_4.cell (by assumption)⟩))
          ((go_at_call 18; refine (C1.out l[k] _ _ HY.out (S.grow (by repeat (first | exact Grow.refl _ | assumption | refine Grow.alloc ?_ _ | refine Grow.drew ?_ | refine Grow.drewN ?_ _ | refine Grow.trans ?_ (by assumption) | refine Grow.below ?_ (by assumption) (by first | exact Nat.le_refl _ | omega))))).mono ?_; rintro e w_4 ⟨rfl, g_4⟩))
        clear ys0 ys1 ys2
        have q : Grow wr w_4 := (by repeat (first | exact Grow.refl _ | assumption | refine Grow.alloc ?_ _ | refine Grow.drew ?_ | refine Grow.drewN ?_ _ | refine Grow.trans ?_ (by assumption) | refine Grow.below ?_ (by assumption) (by first | exact Nat.le_refl _ | omega)))
        have zw_4 := q.le
        replace ys := ys.grow q
        replace S := S.grow q
        replace U := U.grow q
        replace G := G.trans q
        clear q g_4
        have hU : ∀ i (hi : i < l.length), w_4.cell? ⟨bu, ou + i, none⟩ = some (.int .i64 l[i]) := fun i hi => by obtain ⟨b, o, hh, c⟩ := U.at_ hi; injection hh with hh; injection hh with h1 h2 _; subst h1 h2; exact c
        have cu2 := hU k hkl
        clear cu hU
        go_wp2_with fail
        go_loopw [14] (fun i wr => ∃ j : Nat, j ≤ k ∧ i = .int .i64 j ∧ Grow w wr ∧ Sts wr A1 B1 ⟨v, h⟩ ∧ Ints wr (some ⟨bu, ou, none⟩) l ∧ Box2 wr w1.heap.size 25 (.slice A1 v.length c1) (.slice B1 h.length d1)) (fun i _ => k - (intOf i).toNat)
        case atStart => exact ⟨0, Nat.zero_le _, rfl, G, S, U, ys⟩
        case round =>
          clear G S U ys cu2
          obtain ⟨j, hj, rfl, G, S, U, ys⟩ := hrel
          have hU : ∀ i (hi : i < l.length), wr.cell? ⟨bu, ou + i, none⟩ = some (.int .i64 l[i]) := fun i hi => by obtain ⟨b, o, hh, c⟩ := U.at_ hi; injection hh with hh; injection hh with h1 h2 _; subst h1 h2; exact c
          by_cases hjk : j < k
          · have hjl : j < l.length := by omega
            have cj := hU j hjl
            have ck := hU k hkl
            have hap := L.out.ap j k hjl hkl hjk
            have b3 : (l[j] == l[k]) = false := by simp [hap]
            have i0 : (0 : Int) ≤ (j : Int) := by omega
            have i1 : (j : Int) < (l.length : Int) := by omega
            clear hU hap
            go_wp2_with fail
            go_quiet (fail)
            go_wp2
            go_roundw
            case rel => exact ⟨j + 1, by omega, by go_num, G.trans (by repeat (first | exact Grow.refl _ | assumption | refine Grow.alloc ?_ _ | refine Grow.drew ?_ | refine Grow.drewN ?_ _ | refine Grow.trans ?_ (by assumption) | refine Grow.below ?_ (by assumption) (by first | exact Nat.le_refl _ | omega))), S.grow (by repeat (first | exact Grow.refl _ | assumption | refine Grow.alloc ?_ _ | refine Grow.drew ?_ | refine Grow.drewN ?_ _ | refine Grow.trans ?_ (by assumption) | refine Grow.below ?_ (by assumption) (by first | exact Nat.le_refl _ | omega))), U.grow (by repeat (first | exact Grow.refl _ | assumption | refine Grow.alloc ?_ _ | refine Grow.drew ?_ | refine Grow.drewN ?_ _ | refine Grow.trans ?_ (by assumption) | refine Grow.below ?_ (by assumption) (by first | exact Nat.le_refl _ | omega))), ys.grow (by repeat (first | exact Grow.refl _ | assumption | refine Grow.alloc ?_ _ | refine Grow.drew ?_ | refine Grow.drewN ?_ _ | refine Grow.trans ?_ (by assumption) | refine Grow.below ?_ (by assumption) (by first | exact Nat.le_refl _ | omega)))⟩
            case measure => simp [intOf]; omega
          · have hjk2 : ¬ (j : Int) < (k : Int) := by omega
            clear hU
            go_wp2_with fail
            go_roundw
            case rel => exact ⟨k + 1, by omega, by go_num, rfl, G, S, U, ys⟩
            case measure => simp [intOf]; omega
      · have hk1 : ¬ (k : Int) < (l.length : Int) := by omega
        have hkk : k = l.length := by omega
        have b1 : (Pl.it h k a == b) = true := by rw [hkk]; simp [L.out.fin]
        clear hkk
        go_wp2_with fail
        go_ret
        exact ⟨by rfl, G⟩

set_option maxRecDepth 100000 in
theorem lifted (os : Os) (started : os.Started) (H : Type) (enc : TypeId × Value → H) :
    ReturnsInHanded {} Try.checked os 8 .any (Rows.fnWalkCellsSpec.pre6 enc Try.prog Try.f8 Rows.fnWalkCellsRow.domain false) (Rows.fnWalkCellsSpec.post enc Try.prog Try.f8 false true false false) := by
  refine returnsInHanded_of_change (C := Try.checked) own_knob started (by kernel_rfl) Try.func8
    (ChangeSpec.witness6 (enc := enc) (C := Try.checked) false ⟨#[], #[.slice none 0 0], []⟩ 8 (by kernel_rfl) (by kernel_rfl) (by kernel_rfl) (by kernel_rfl)) ?_
  intro W base args ds gs before hval0 hW hcnd _
  have hval : ∀ (j : Nat) t v, Try.f8.params[j]? = some t → args[j]? = some v → Value.okWide Try.prog W .any base t v := hval0
  have hW' := hW
  obtain ⟨p, q, hA0, hV, rfl, hfz, hnd⟩ := hW
  have hA : DataW.TrodAll enc Try.prog W 0 (fun _ => true) true Try.f8.params.toList args.toList ds p := hA0
  rw [Try.params8] at hA hval
  obtain ⟨v0, vs0, d0, ds0, p0, q0, hargs, rfl, rfl, h0, r0⟩ := trodAll_cons hA
  obtain ⟨rfl, rfl, rfl⟩ := trodAll_nil r0
  obtain rfl : args = #[v0] := by cases args; simp_all
  obtain ⟨rfl, rfl⟩ := trodVars_none hV
  have k0 := h0
  have lt0 : ∀ x ∈ p0, x.block < W.heap.size := by obtain ⟨m, hm⟩ := k0; exact DataW.trod_lt m _ _ _ hm
  obtain ⟨a0, len0, cap0, rfl⟩ := okWide_slice Try.underlying22 (hval 0 22 v0 rfl rfl)
  obtain ⟨hb0, w0, hc0⟩ : len0 ≤ 9223372036854775807 ∧ Bytes W a0 len0 ∧ len0 ≤ cap0 := by
    obtain ⟨fuel, hf⟩ := h0
    exact open_bytesL (by simpa [Value.cells] using hf)
  clear hA0 hval0
  refine (walk a0 cap0 len0 W w0 hb0 hc0).mono fun e W' ⟨he, bel⟩ => ?_
  subst he
  exact ⟨_, rfl, _, _, _, [], _, [], hW', trodAll_mk1 (shut_bool Try.underlying4 _), (trodAll_cons_mk (Below.trod laid_out (by kernel_rfl) (of_decide_eq_true (by kernel_rfl)) k0 bel lt0) trodAll_mk0), rfl, bel.frame _, fun h => by cases h⟩

theorem over : Rows.fnWalkCellsRow.holds Try.pinned (OpenSpec.ofChange Rows.fnWalkCellsSpec) :=
  OpenClaim.holds_of_wide 8 Try.f8 rfl rfl rfl rfl rfl rfl rfl ⟨rfl, rfl, rfl, rfl, rfl⟩ rfl rfl rfl rfl rfl (by kernel_rfl) Try.func8 (by kernel_rfl)
    (of_decide_eq_true (by kernel_rfl)) (by unfold Func.isWrapper; first | (rw [if_pos (by decide +kernel)]; kernel_rfl) | (rw [if_neg (by decide +kernel)]; exact ⟨rfl, rfl⟩))
    (fun os started H enc _ => lifted os started H enc)

/-- The statement. -/
theorem proved : Rows.FnWalkCellsSaid := over
#print axioms proved

end Go.Proofs.Ytagihhainhdhfaa.lawFnWalkCells
