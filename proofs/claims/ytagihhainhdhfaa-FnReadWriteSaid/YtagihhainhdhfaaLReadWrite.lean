/- FnReadWrite: whatever state, address and number are drawn, what is written is read, and writing what is read changes nothing. No conditions. -/
import Derived.Test.YtagihhainhdhfaaSt9
import Derived.Test.YtagihhainhdhfaaDrawS2
import Derived.Test.YtagihhainhdhfaaPlainLaws
import Derived.Test.YtagihhainhdhfaaRowAid
namespace Go.Proofs.Ytagihhainhdhfaa.lawFnReadWrite
open Go.ChangeShapes Go.WideShapes Go.ChangeAt Go.RowKit Go.Joins Go.Deep
open Go.ChangeMaps (open_string shut_string)
set_option linter.unusedVariables false

set_option maxRecDepth 100000 in
set_option maxHeartbeats 6400000 in
theorem walk (A : Option Addr) (c n : Nat) (B : Option Addr) (d m : Nat) (w : World) (hA : Bytes w A n) (hn : n ≤ 9223372036854775807) (hnc : n ≤ c) (hB : Bytes w B m) (hm : m ≤ 9223372036854775807) (hmd : m ≤ d) :
    Calls Try.prog 4 #[.slice A n c, .slice B m d] w fun e w' => e = .returned (.bool true) ∧ Grow w w' := by
  by_cases hn20 : (1048576 : Int) < (n : Int)
  · go_enter Try.func4, Try.ntmps4
    go_wp2
    go_ret
    exact ⟨rfl, (by repeat (first | exact Grow.refl _ | assumption | refine Grow.alloc ?_ _ | refine Grow.drew ?_ | refine Grow.drewN ?_ _ | refine Grow.trans ?_ (by assumption) | refine Grow.below ?_ (by assumption) (by first | exact Nat.le_refl _ | omega)))⟩
  by_cases hm20 : (1048576 : Int) < (m : Int)
  · go_enter Try.func4, Try.ntmps4
    go_wp2
    go_ret
    exact ⟨rfl, (by repeat (first | exact Grow.refl _ | assumption | refine Grow.alloc ?_ _ | refine Grow.drew ?_ | refine Grow.drewN ?_ _ | refine Grow.trans ?_ (by assumption) | refine Grow.below ?_ (by assumption) (by first | exact Nat.le_refl _ | omega)))⟩
  go_enter Try.func4, Try.ntmps4
  go_wp2_with fail
  refine (DrawReadCell_c A n c _ hA hn hnc).mono ?_
  rintro e w1 ⟨A1, B1, c1, d1, v, h, a, rfl, o1, hl, hb_a, g1⟩
  have S := o1.st
  have G : Grow w w1 := g1
  obtain ⟨hl1, hl2⟩ := hl
  clear o1 g1 hA hnc
  obtain ⟨⟨y, yb⟩, hy⟩ : ∃ y, y = Pl.readC ⟨v, h⟩ a := ⟨_, rfl⟩
  have b1 : (y != y) = false := by simp
  have CI := Lib.hid (show ∀ W, Sts W A1 B1 ⟨v, h⟩ → Calls Try.prog 18 #[sval A1 B1 c1 d1 ⟨v, h⟩, .int .i64 a] W (fun e w' => e = .returned (.tuple #[.int .i64 y, .bool yb]) ∧ Grow W w') from fun W k => by have kk := ReadCell_c A1 B1 c1 d1 ⟨v, h⟩ a W k (by show v.length ≤ _; omega) (by show h.length ≤ _; omega); rw [← hy] at kk; exact kk)
  have CS := Lib.hid (show ∀ W, Sts W A1 B1 ⟨v, h⟩ → Calls Try.prog 19 #[sval A1 B1 c1 d1 ⟨v, h⟩, .int .i64 a] W (fun e w' => e = .returned (.tuple #[.int .i64 y, .bool yb]) ∧ Grow W w') from fun W k => by have kk := sReadCell_c A1 B1 c1 d1 ⟨v, h⟩ a W k (by show v.length ≤ _; omega) (by show h.length ≤ _; omega); rw [← hy] at kk; exact kk)
  have HR := Lib.hid hy
  clear hy
  go_wp2_with fail
  refine (CI.out _ (S.grow (by repeat (first | exact Grow.refl _ | assumption | refine Grow.alloc ?_ _ | refine Grow.drew ?_ | refine Grow.drewN ?_ _ | refine Grow.trans ?_ (by assumption) | refine Grow.below ?_ (by assumption) (by first | exact Nat.le_refl _ | omega))))).mono ?_
  rintro e w_1 ⟨rfl, g_1⟩
  have q : Grow w1 w_1 := (by repeat (first | exact Grow.refl _ | assumption | refine Grow.alloc ?_ _ | refine Grow.drew ?_ | refine Grow.drewN ?_ _ | refine Grow.trans ?_ (by assumption) | refine Grow.below ?_ (by assumption) (by first | exact Nat.le_refl _ | omega)))
  have ys := (Box2.new w1 25 (.slice A1 v.length c1) (.slice B1 h.length d1)).grow g_1
  have zw_1 := ys.lt
  replace S := S.grow q
  replace G := G.trans q
  clear q g_1
  obtain ⟨ys0, ys1, _, _⟩ := ys.facts
  have ys2 := ys.lt
  go_wp2_with fail
  refine (CS.out _ S).mono ?_
  rintro e w_2 ⟨rfl, g_2⟩
  clear ys0 ys1 ys2
  have q : Grow w_1 w_2 := (by repeat (first | exact Grow.refl _ | assumption | refine Grow.alloc ?_ _ | refine Grow.drew ?_ | refine Grow.drewN ?_ _ | refine Grow.trans ?_ (by assumption) | refine Grow.below ?_ (by assumption) (by first | exact Nat.le_refl _ | omega)))
  have zw_2 := q.le
  replace ys := ys.grow q
  replace S := S.grow q
  replace G := G.trans q
  clear q g_2
  clear CI CS
  cases yb with
  | false =>
    go_wp2_with fail
    go_ret
    exact ⟨by simp, G⟩
  | true =>
    have L := Lib.hid (Pl.rw_law (n := (m : Int) % 9) HR.out (by omega))
    have C1 := Lib.hid (show ∀ W, Sts W A1 B1 ⟨v, h⟩ → Calls Try.prog 20 #[sval A1 B1 c1 d1 ⟨v, h⟩, .int .i64 a, .int .i64 y] W (RSt W (⟨v, h⟩, true)) from fun W k => by have kk := WriteCell_c A1 B1 c1 d1 ⟨v, h⟩ a y W k (by show v.length ≤ _; omega) (by show h.length ≤ _; omega); rw [L.out.same] at kk; exact kk)
    obtain ⟨⟨⟨rv, rh⟩, rb⟩, hw⟩ : ∃ r, r = Pl.writeC ⟨v, h⟩ a ((m : Int) % 9) := ⟨_, rfl⟩
    obtain rfl : rb = true := by have hh := L.out.wr; rw [← hw] at hh; exact hh
    have hrd : Pl.readC ⟨rv, rh⟩ a = ((m : Int) % 9, true) := by have hh := L.out.rd; rw [← hw] at hh; exact hh
    have hl : rv.length ≤ 100 ∧ rh.length ≤ 100 := by have hh := Pl.writeC_len (n := 100) ⟨v, h⟩ a ((m : Int) % 9) (by show v.length ≤ _; omega) (by show h.length ≤ _; omega); rw [← hw] at hh; exact hh
    obtain ⟨hl3, hl4⟩ := hl
    have C2 := Lib.hid (show ∀ W, Sts W A1 B1 ⟨v, h⟩ → Calls Try.prog 20 #[sval A1 B1 c1 d1 ⟨v, h⟩, .int .i64 a, .int .i64 ((m : Int) % 9)] W (RSt W (⟨rv, rh⟩, true)) from fun W k => by have kk := WriteCell_c A1 B1 c1 d1 ⟨v, h⟩ a ((m : Int) % 9) W k (by show v.length ≤ _; omega) (by show h.length ≤ _; omega); rw [← hw] at kk; exact kk)
    have HD := Lib.hid hrd
    clear hw hrd
    obtain ⟨ys0, ys1, _, _⟩ := ys.facts
    have ys2 := ys.lt
    go_wp2_with fail
    refine (C1.out _ S).mono ?_
    rintro e w_3 ⟨A2, B2, c2, d2, rfl, o2, g_3⟩
    clear ys0 ys1 ys2
    have q : Grow w_2 w_3 := (by repeat (first | exact Grow.refl _ | assumption | refine Grow.alloc ?_ _ | refine Grow.drew ?_ | refine Grow.drewN ?_ _ | refine Grow.trans ?_ (by assumption) | refine Grow.below ?_ (by assumption) (by first | exact Nat.le_refl _ | omega)))
    have zw_3 := q.le
    replace ys := ys.grow q
    replace S := S.grow q
    replace G := G.trans q
    clear q g_3
    have X := o2.st
    clear o2
    obtain ⟨ys0, ys1, _, _⟩ := ys.facts
    have ys2 := ys.lt
    go_wp2_with fail
    refine (C2.out _ (S.grow (by repeat (first | exact Grow.refl _ | assumption | refine Grow.alloc ?_ _ | refine Grow.drew ?_ | refine Grow.drewN ?_ _ | refine Grow.trans ?_ (by assumption) | refine Grow.below ?_ (by assumption) (by first | exact Nat.le_refl _ | omega))))).mono ?_
    rintro e w_4 ⟨A3, B3, c3, d3, rfl, o3, g_4⟩
    clear ys0 ys1 ys2
    have q : Grow w_3 w_4 := (by repeat (first | exact Grow.refl _ | assumption | refine Grow.alloc ?_ _ | refine Grow.drew ?_ | refine Grow.drewN ?_ _ | refine Grow.trans ?_ (by assumption) | refine Grow.below ?_ (by assumption) (by first | exact Nat.le_refl _ | omega)))
    have yx := (Box2.new w_3 25 (.slice A2 v.length c2) (.slice B2 h.length d2)).grow g_4
    have zw_4 := yx.lt
    replace ys := ys.grow q
    replace S := S.grow q
    replace X := X.grow q
    replace G := G.trans q
    clear q g_4
    have W := o3.st
    clear o3
    have C3 := Lib.hid (show ∀ W, Sts W A3 B3 ⟨rv, rh⟩ → Calls Try.prog 18 #[sval A3 B3 c3 d3 ⟨rv, rh⟩, .int .i64 a] W (fun e w' => e = .returned (.tuple #[.int .i64 ((m : Int) % 9), .bool true]) ∧ Grow W w') from fun W k => by have kk := ReadCell_c A3 B3 c3 d3 ⟨rv, rh⟩ a W k (by show rv.length ≤ _; omega) (by show rh.length ≤ _; omega); rw [HD.out] at kk; exact kk)
    go_wp2_with fail
    refine (C3.out _ (W.grow (by repeat (first | exact Grow.refl _ | assumption | refine Grow.alloc ?_ _ | refine Grow.drew ?_ | refine Grow.drewN ?_ _ | refine Grow.trans ?_ (by assumption) | refine Grow.below ?_ (by assumption) (by first | exact Nat.le_refl _ | omega))))).mono ?_
    rintro e w_5 ⟨rfl, g_5⟩
    have q : Grow w_4 w_5 := (by repeat (first | exact Grow.refl _ | assumption | refine Grow.alloc ?_ _ | refine Grow.drew ?_ | refine Grow.drewN ?_ _ | refine Grow.trans ?_ (by assumption) | refine Grow.below ?_ (by assumption) (by first | exact Nat.le_refl _ | omega)))
    have yw := (Box2.new w_4 25 (.slice A3 rv.length c3) (.slice B3 rh.length d3)).grow g_5
    have zw_5 := yw.lt
    replace ys := ys.grow q
    replace yx := yx.grow q
    replace S := S.grow q
    replace X := X.grow q
    replace W := W.grow q
    replace G := G.trans q
    clear q g_5
    obtain ⟨ys0, ys1, _, _⟩ := ys.facts
    have ys2 := ys.lt
    obtain ⟨yx0, yx1, _, _⟩ := yx.facts
    have yx2 := yx.lt
    go_wp2_with fail
    refine (StateSame_c A2 B2 A1 B1 c2 d2 c1 d1 ⟨v, h⟩ ⟨v, h⟩ _ (X.grow (by repeat (first | exact Grow.refl _ | assumption | refine Grow.alloc ?_ _ | refine Grow.drew ?_ | refine Grow.drewN ?_ _ | refine Grow.trans ?_ (by assumption) | refine Grow.below ?_ (by assumption) (by first | exact Nat.le_refl _ | omega)))) (S.grow (by repeat (first | exact Grow.refl _ | assumption | refine Grow.alloc ?_ _ | refine Grow.drew ?_ | refine Grow.drewN ?_ _ | refine Grow.trans ?_ (by assumption) | refine Grow.below ?_ (by assumption) (by first | exact Nat.le_refl _ | omega)))) (by show v.length ≤ _; omega) (by show h.length ≤ _; omega) (by show v.length ≤ _; omega) (by show h.length ≤ _; omega)).mono ?_
    rintro e w_6 ⟨rfl, g_6⟩
    clear ys0 ys1 ys2 yx0 yx1 yx2
    have q : Grow w_5 w_6 := (by repeat (first | exact Grow.refl _ | assumption | refine Grow.alloc ?_ _ | refine Grow.drew ?_ | refine Grow.drewN ?_ _ | refine Grow.trans ?_ (by assumption) | refine Grow.below ?_ (by assumption) (by first | exact Nat.le_refl _ | omega)))
    have zw_6 := q.le
    replace ys := ys.grow q
    replace yx := yx.grow q
    replace yw := yw.grow q
    replace S := S.grow q
    replace X := X.grow q
    replace W := W.grow q
    replace G := G.trans q
    clear q g_6
    go_wp2_with fail
    go_ret
    exact ⟨by simp, G⟩

set_option maxRecDepth 100000 in
theorem lifted (os : Os) (started : os.Started) (H : Type) (enc : TypeId × Value → H) :
    ReturnsInHanded {} Try.checked os 4 .any (Rows.fnReadWriteSpec.pre6 enc Try.prog Try.f4 Rows.fnReadWriteRow.domain false) (Rows.fnReadWriteSpec.post enc Try.prog Try.f4 false true false false) := by
  refine returnsInHanded_of_change (C := Try.checked) own_knob started (by kernel_rfl) Try.func4
    (ChangeSpec.witness6 (enc := enc) (C := Try.checked) false ⟨#[], #[.slice none 0 0, .slice none 0 0], []⟩ 8 (by kernel_rfl) (by kernel_rfl) (by kernel_rfl) (by kernel_rfl)) ?_
  intro W base args ds gs before hval0 hW hcnd _
  have hval : ∀ (j : Nat) t v, Try.f4.params[j]? = some t → args[j]? = some v → Value.okWide Try.prog W .any base t v := hval0
  have hW' := hW
  obtain ⟨p, q, hA0, hV, rfl, hfz, hnd⟩ := hW
  have hA : DataW.TrodAll enc Try.prog W 0 (fun _ => true) true Try.f4.params.toList args.toList ds p := hA0
  rw [Try.params4] at hA hval
  obtain ⟨v0, vs0, d0, ds0, p0, q0, hargs, rfl, rfl, h0, r0⟩ := trodAll_cons hA
  obtain ⟨v1, vs1, d1, ds1, p1, q1, rfl, rfl, rfl, h1, r1⟩ := trodAll_cons r0
  obtain ⟨rfl, rfl, rfl⟩ := trodAll_nil r1
  obtain rfl : args = #[v0, v1] := by cases args; simp_all
  obtain ⟨rfl, rfl⟩ := trodVars_none hV
  have k0 := h0
  have lt0 : ∀ x ∈ p0, x.block < W.heap.size := by obtain ⟨m, hm⟩ := k0; exact DataW.trod_lt m _ _ _ hm
  obtain ⟨a0, len0, cap0, rfl⟩ := okWide_slice Try.underlying22 (hval 0 22 v0 rfl rfl)
  obtain ⟨hb0, w0, hc0⟩ : len0 ≤ 9223372036854775807 ∧ Bytes W a0 len0 ∧ len0 ≤ cap0 := by
    obtain ⟨fuel, hf⟩ := h0
    exact open_bytesL (by simpa [Value.cells] using hf)
  have k1 := h1
  have lt1 : ∀ x ∈ p1, x.block < W.heap.size := by obtain ⟨m, hm⟩ := k1; exact DataW.trod_lt m _ _ _ hm
  obtain ⟨a1, len1, cap1, rfl⟩ := okWide_slice Try.underlying22 (hval 1 22 v1 rfl rfl)
  obtain ⟨hb1, w1, hc1⟩ : len1 ≤ 9223372036854775807 ∧ Bytes W a1 len1 ∧ len1 ≤ cap1 := by
    obtain ⟨fuel, hf⟩ := h1
    exact open_bytesL (by simpa [Value.cells] using hf)
  clear hA0 hval0
  refine (walk a0 cap0 len0 a1 cap1 len1 W w0 hb0 hc0 w1 hb1 hc1).mono fun e W' ⟨he, bel⟩ => ?_
  subst he
  exact ⟨_, rfl, _, _, _, [], _, [], hW', trodAll_mk1 (shut_bool Try.underlying4 _), (trodAll_cons_mk (Below.trod laid_out (by kernel_rfl) (of_decide_eq_true (by kernel_rfl)) k0 bel lt0) (trodAll_cons_mk (Below.trod laid_out (by kernel_rfl) (of_decide_eq_true (by kernel_rfl)) k1 bel lt1) trodAll_mk0)), rfl, bel.frame _, fun h => by cases h⟩

theorem over : Rows.fnReadWriteRow.holds Try.pinned (OpenSpec.ofChange Rows.fnReadWriteSpec) :=
  OpenClaim.holds_of_wide 4 Try.f4 rfl rfl rfl rfl rfl rfl rfl ⟨rfl, rfl, rfl, rfl, rfl⟩ rfl rfl rfl rfl rfl (by kernel_rfl) Try.func4 (by kernel_rfl)
    (of_decide_eq_true (by kernel_rfl)) (by unfold Func.isWrapper; first | (rw [if_pos (by decide +kernel)]; kernel_rfl) | (rw [if_neg (by decide +kernel)]; exact ⟨rfl, rfl⟩))
    (fun os started H enc _ => lifted os started H enc)

/-- The statement. -/
theorem proved : Rows.FnReadWriteSaid := over
#print axioms proved

end Go.Proofs.Ytagihhainhdhfaa.lawFnReadWrite
