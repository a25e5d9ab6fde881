/- FnUsedCells: whatever state is drawn, just the allocated cells can be read. No conditions. -/
import Derived.Test.YtagihhainhdhfaaSt9
import Derived.Test.YtagihhainhdhfaaDrawS2
import Derived.Test.YtagihhainhdhfaaPlainLaws
import Derived.Test.YtagihhainhdhfaaRowAid
namespace Go.Proofs.Ytagihhainhdhfaa.lawFnUsedCells
open Go.ChangeShapes Go.WideShapes Go.ChangeAt Go.RowKit Go.Joins Go.Deep
open Go.ChangeMaps (open_string shut_string)
set_option linter.unusedVariables false

set_option maxRecDepth 100000 in
set_option maxHeartbeats 6400000 in
theorem walk (A : Option Addr) (c n : Nat) (w : World) (hA : Bytes w A n) (hn : n ≤ 9223372036854775807) (hnc : n ≤ c) :
    Calls Try.prog 6 #[.slice A n c] w fun e w' => e = .returned (.bool true) ∧ Grow w w' := by
  by_cases hn20 : (1048576 : Int) < (n : Int)
  · go_enter Try.func6, Try.ntmps6
    go_wp2
    go_ret
    exact ⟨rfl, (by repeat (first | exact Grow.refl _ | assumption | refine Grow.alloc ?_ _ | refine Grow.drew ?_ | refine Grow.drewN ?_ _ | refine Grow.trans ?_ (by assumption) | refine Grow.below ?_ (by assumption) (by first | exact Nat.le_refl _ | omega)))⟩
  go_enter Try.func6, Try.ntmps6
  go_wp2_with fail
  refine (DrawUsedCells_c A n c _ hA hn hnc).mono ?_
  rintro e w1 ⟨A1, B1, c1, d1, v, h, rfl, o1, hl, g1⟩
  have S := o1.st
  have G : Grow w w1 := g1
  obtain ⟨hl1, hl2⟩ := hl
  clear o1 g1 hA hnc
  obtain ⟨us, hus⟩ : ∃ l, l = Pl.usedC ⟨v, h⟩ := ⟨_, rfl⟩
  have hlu : us.length ≤ 8 := by rw [hus]; exact Pl.usedC_len _
  have CU := Lib.hid (show ∀ W, Sts W A1 B1 ⟨v, h⟩ → Calls Try.prog 26 #[sval A1 B1 c1 d1 ⟨v, h⟩] W (ROut W us) from fun W k => by have kk := UsedCells_c A1 B1 c1 d1 ⟨v, h⟩ W k (by show v.length ≤ _; omega) (by show h.length ≤ _; omega); rw [← hus] at kk; exact kk)
  have CS := Lib.hid (show ∀ W, Sts W A1 B1 ⟨v, h⟩ → Calls Try.prog 27 #[sval A1 B1 c1 d1 ⟨v, h⟩] W (ROut W us) from fun W k => by have kk := sUsedCells_c A1 B1 c1 d1 ⟨v, h⟩ W k (by show v.length ≤ _; omega) (by show h.length ≤ _; omega); rw [← hus] at kk; exact kk)
  have HU := Lib.hid (show ∀ i : Int, (Pl.readC ⟨v, h⟩ i).2 = decide (i ∈ us) from fun i => by rw [hus]; exact Pl.used_read _ _)
  clear hus
  have C1 := Lib.hid (show ∀ (i : Int) (r : Int × Bool) W, Pl.readC ⟨v, h⟩ i = r → Sts W A1 B1 ⟨v, h⟩ → Calls Try.prog 18 #[sval A1 B1 c1 d1 ⟨v, h⟩, .int .i64 i] W (fun e w' => e = .returned (.tuple #[.int .i64 r.1, .bool r.2]) ∧ Grow W w') from fun i r W p0 k => by have kk := ReadCell_c A1 B1 c1 d1 ⟨v, h⟩ i W k (by show v.length ≤ _; omega) (by show h.length ≤ _; omega); rw [p0] at kk; exact kk)
  go_wp2_with fail
  refine (CU.out _ (S.grow (by repeat (first | exact Grow.refl _ | assumption | refine Grow.alloc ?_ _ | refine Grow.drew ?_ | refine Grow.drewN ?_ _ | refine Grow.trans ?_ (by assumption) | refine Grow.below ?_ (by assumption) (by first | exact Nat.le_refl _ | omega))))).mono ?_
  rintro e w_1 ⟨A2, c2, rfl, o2, g_1⟩
  have q : Grow w1 w_1 := (by repeat (first | exact Grow.refl _ | assumption | refine Grow.alloc ?_ _ | refine Grow.drew ?_ | refine Grow.drewN ?_ _ | refine Grow.trans ?_ (by assumption) | refine Grow.below ?_ (by assumption) (by first | exact Nat.le_refl _ | omega)))
  have ys := (Box2.new w1 25 (.slice A1 v.length c1) (.slice B1 h.length d1)).grow g_1
  have zw_1 := ys.lt
  replace S := S.grow q
  replace G := G.trans q
  clear q g_1
  have U := OInts.ints rfl o2
  clear o2
  obtain ⟨ys0, ys1, _, _⟩ := ys.facts
  have ys2 := ys.lt
  go_wp2_with fail
  refine (CS.out _ S).mono ?_
  rintro e w_2 ⟨A3, c3, rfl, o3, g_2⟩
  clear ys0 ys1 ys2
  have q : Grow w_1 w_2 := (by repeat (first | exact Grow.refl _ | assumption | refine Grow.alloc ?_ _ | refine Grow.drew ?_ | refine Grow.drewN ?_ _ | refine Grow.trans ?_ (by assumption) | refine Grow.below ?_ (by assumption) (by first | exact Nat.le_refl _ | omega)))
  have zw_2 := q.le
  replace ys := ys.grow q
  replace S := S.grow q
  replace U := U.grow q
  replace G := G.trans q
  clear q g_2
  have U3 := OInts.ints rfl o3
  clear o3
  go_wp2_with fail
  refine (slInts_c A2 A3 c2 c3 us us _ U U3 (by omega) (by omega)).mono ?_
  rintro e w_3 ⟨rfl, g_3⟩
  have q : Grow w_2 w_3 := (by repeat (first | exact Grow.refl _ | assumption | refine Grow.alloc ?_ _ | refine Grow.drew ?_ | refine Grow.drewN ?_ _ | refine Grow.trans ?_ (by assumption) | refine Grow.below ?_ (by assumption) (by first | exact Nat.le_refl _ | omega)))
  have zw_3 := q.le
  replace ys := ys.grow q
  replace S := S.grow q
  replace U := U.grow q
  replace U3 := U3.grow q
  replace G := G.trans q
  clear q g_3
  clear U3
  clear CU CS
  go_wp2_with fail
  go_loopw [5] (fun i wr => ∃ k : Nat, k ≤ 9 ∧ i = .int .i64 k ∧ Grow w wr ∧ Sts wr A1 B1 ⟨v, h⟩ ∧ Ints wr A2 us ∧ Box2 wr w1.heap.size 25 (.slice A1 v.length c1) (.slice B1 h.length d1)) (fun i _ => 9 + 1 - (intOf i).toNat)
  case atStart => exact ⟨0, Nat.zero_le _, rfl, G, S, U, ys⟩
  case round =>
    clear G S U ys
    obtain ⟨k, hk, rfl, G, S, U, ys⟩ := hrel
    by_cases hk9 : k < 9
    · have hk8 : (k : Int) ≤ 8 := by omega
      obtain ⟨⟨y, yb⟩, hy⟩ : ∃ y, Pl.readC ⟨v, h⟩ (k : Int) = y := ⟨_, rfl⟩
      have HB := Lib.hid (show decide ((k : Int) ∈ us) = yb by rw [← HU.out, hy])
      have HY := Lib.hid hy
      have b1 : (yb != yb) = false := by simp
      clear hy
      obtain ⟨ys0, ys1, _, _⟩ := ys.facts
      have ys2 := ys.lt
      go_wp2_with fail
      refine (C1.out _ (y, yb) _ HY.out S).mono ?_
      rintro e w_4 ⟨rfl, g_4⟩
      clear ys0 ys1 ys2
      have q : Grow wr w_4 := (by repeat (first | exact Grow.refl _ | assumption | refine Grow.alloc ?_ _ | refine Grow.drew ?_ | refine Grow.drewN ?_ _ | refine Grow.trans ?_ (by assumption) | refine Grow.below ?_ (by assumption) (by first | exact Nat.le_refl _ | omega)))
      have zw_4 := q.le
      replace ys := ys.grow q
      replace S := S.grow q
      replace U := U.grow q
      replace G := G.trans q
      clear q g_4
      go_wp2_with fail
      refine (slHas_c A2 c2 us (k : Int) _ U (by omega)).mono ?_
      rintro e w9 ⟨rfl, rfl⟩
      rw [HB.out]
      go_wp2_with fail
      go_roundw
      case rel => exact ⟨k + 1, by omega, by go_num, G, S, U, ys⟩
      case measure => simp [intOf]; omega
    · have hk8 : (8 : Int) < (k : Int) := by omega
      go_wp2_with fail
      go_ret
      exact ⟨rfl, G⟩

set_option maxRecDepth 100000 in
theorem lifted (os : Os) (started : os.Started) (H : Type) (enc : TypeId × Value → H) :
    ReturnsInHanded {} Try.checked os 6 .any (Rows.fnUsedCellsSpec.pre6 enc Try.prog Try.f6 Rows.fnUsedCellsRow.domain false) (Rows.fnUsedCellsSpec.post enc Try.prog Try.f6 false true false false) := by
  refine returnsInHanded_of_change (C := Try.checked) own_knob started (by kernel_rfl) Try.func6
    (ChangeSpec.witness6 (enc := enc) (C := Try.checked) false ⟨#[], #[.slice none 0 0], []⟩ 8 (by kernel_rfl) (by kernel_rfl) (by kernel_rfl) (by kernel_rfl)) ?_
  intro W base args ds gs before hval0 hW hcnd _
  have hval : ∀ (j : Nat) t v, Try.f6.params[j]? = some t → args[j]? = some v → Value.okWide Try.prog W .any base t v := hval0
  have hW' := hW
  obtain ⟨p, q, hA0, hV, rfl, hfz, hnd⟩ := hW
  have hA : DataW.TrodAll enc Try.prog W 0 (fun _ => true) true Try.f6.params.toList args.toList ds p := hA0
  rw [Try.params6] at hA hval
  obtain ⟨v0, vs0, d0, ds0, p0, q0, hargs, rfl, rfl, h0, r0⟩ := trodAll_cons hA
  obtain ⟨rfl, rfl, rfl⟩ := trodAll_nil r0
  obtain rfl : args = #[v0] := by cases args; simp_all
  obtain ⟨rfl, rfl⟩ := trodVars_none hV
  have k0 := h0
  have lt0 : ∀ x ∈ p0, x.block < W.heap.size := by obtain ⟨m, hm⟩ := k0; exact DataW.trod_lt m _ _ _ hm
  obtain ⟨a0, len0, cap0, rfl⟩ := okWide_slice Try.underlying22 (hval 0 22 v0 rfl rfl)
  obtain ⟨hb0, w0, hc0⟩ : len0 ≤ 9223372036854775807 ∧ Bytes W a0 len0 ∧ len0 ≤ cap0 := by
    obtain ⟨fuel, hf⟩ := h0
    exact open_bytesL (by simpa [Value.cells] using hf)
  clear hA0 hval0
  refine (walk a0 cap0 len0 W w0 hb0 hc0).mono fun e W' ⟨he, bel⟩ => ?_
  subst he
  exact ⟨_, rfl, _, _, _, [], _, [], hW', trodAll_mk1 (shut_bool Try.underlying4 _), (trodAll_cons_mk (Below.trod laid_out (by kernel_rfl) (of_decide_eq_true (by kernel_rfl)) k0 bel lt0) trodAll_mk0), rfl, bel.frame _, fun h => by cases h⟩

theorem over : Rows.fnUsedCellsRow.holds Try.pinned (OpenSpec.ofChange Rows.fnUsedCellsSpec) :=
  OpenClaim.holds_of_wide 6 Try.f6 rfl rfl rfl rfl rfl rfl rfl ⟨rfl, rfl, rfl, rfl, rfl⟩ rfl rfl rfl rfl rfl (by kernel_rfl) Try.func6 (by kernel_rfl)
    (of_decide_eq_true (by kernel_rfl)) (by unfold Func.isWrapper; first | (rw [if_pos (by decide +kernel)]; kernel_rfl) | (rw [if_neg (by decide +kernel)]; exact ⟨rfl, rfl⟩))
    (fun os started H enc _ => lifted os started H enc)

/-- The statement. -/
theorem proved : Rows.FnUsedCellsSaid := over
#print axioms proved

end Go.Proofs.Ytagihhainhdhfaa.lawFnUsedCells
