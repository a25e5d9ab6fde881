/- FnAllocFree: whatever state is drawn, what is allocated first is freed again. No conditions. -/
import Derived.Test.YtagihhainhdhfaaSt9
import Derived.Test.YtagihhainhdhfaaDrawS2
import Derived.Test.YtagihhainhdhfaaPlainLaws
import Derived.Test.YtagihhainhdhfaaRowAid
namespace Go.Proofs.Ytagihhainhdhfaa.lawFnAllocFree
open Go.ChangeShapes Go.WideShapes Go.ChangeAt Go.RowKit Go.Joins Go.Deep
open Go.ChangeMaps (open_string shut_string)
set_option linter.unusedVariables false

set_option maxRecDepth 100000 in
set_option maxHeartbeats 6400000 in
theorem walk (A : Option Addr) (c n : Nat) (w : World) (hA : Bytes w A n) (hn : n ≤ 9223372036854775807) (hnc : n ≤ c) :
    Calls Try.prog 11 #[.slice A n c] w fun e w' => e = .returned (.bool true) ∧ Grow w w' := by
  by_cases hn20 : (1048576 : Int) < (n : Int)
  · go_enter Try.func11, Try.ntmps11
    go_wp2
    go_ret
    exact ⟨rfl, (by repeat (first | exact Grow.refl _ | assumption | refine Grow.alloc ?_ _ | refine Grow.drew ?_ | refine Grow.drewN ?_ _ | refine Grow.trans ?_ (by assumption) | refine Grow.below ?_ (by assumption) (by first | exact Nat.le_refl _ | omega)))⟩
  go_enter Try.func11, Try.ntmps11
  go_wp2_with fail
  refine (DrawAllocCell_c A n c _ hA hn hnc).mono ?_
  rintro e w1 ⟨A1, B1, c1, d1, v, h, rfl, o1, hl, g1⟩
  have S := o1.st
  have G : Grow w w1 := g1
  obtain ⟨hl1, hl2⟩ := hl
  clear o1 g1 hA hnc
  obtain ⟨us, hus⟩ : ∃ l, l = Pl.usedC ⟨v, h⟩ := ⟨_, rfl⟩
  have hlu : us.length ≤ 8 := by rw [hus]; exact Pl.usedC_len _
  have CU := Lib.hid (show ∀ W, Sts W A1 B1 ⟨v, h⟩ → Calls Try.prog 26 #[sval A1 B1 c1 d1 ⟨v, h⟩] W (ROut W us) from fun W k => by have kk := UsedCells_c A1 B1 c1 d1 ⟨v, h⟩ W k (by show v.length ≤ _; omega) (by show h.length ≤ _; omega); rw [← hus] at kk; exact kk)
  obtain ⟨⟨⟨rv, rh⟩, nn, rb⟩, hr⟩ : ∃ r, r = Pl.allocC ⟨v, h⟩ := ⟨_, rfl⟩
  have hl : rv.length ≤ 100 ∧ rh.length ≤ 100 := by have hh := Pl.allocC_len (n := 100) ⟨v, h⟩ (by show v.length ≤ _; omega) (by show h.length ≤ _; omega); rw [← hr] at hh; exact hh
  obtain ⟨hl3, hl4⟩ := hl
  have CI := Lib.hid (show ∀ W, Sts W A1 B1 ⟨v, h⟩ → Calls Try.prog 32 #[sval A1 B1 c1 d1 ⟨v, h⟩] W (RSt3 W (⟨rv, rh⟩, nn, rb)) from fun W k => by have kk := AllocCell_c A1 B1 c1 d1 ⟨v, h⟩ W k (by show v.length ≤ _; omega) (by show h.length ≤ _; omega); rw [← hr] at kk; exact kk)
  have CS := Lib.hid (show ∀ W, Sts W A1 B1 ⟨v, h⟩ → Calls Try.prog 33 #[sval A1 B1 c1 d1 ⟨v, h⟩] W (RSt3 W (⟨rv, rh⟩, nn, rb)) from fun W k => by have kk := sAllocCell_c A1 B1 c1 d1 ⟨v, h⟩ W k (by show v.length ≤ _; omega) (by show h.length ≤ _; omega); rw [← hr] at kk; exact kk)
  have b1 : (nn != nn) = false := by simp
  have b2 : (nn == nn) = true := by simp
  obtain ⟨ux, hux⟩ : ∃ l, l = Pl.usedC ⟨rv, rh⟩ := ⟨_, rfl⟩
  have hlx : ux.length ≤ 8 := by rw [hux]; exact Pl.usedC_len _
  have CX := Lib.hid (show ∀ A B c d W, Sts W A B ⟨rv, rh⟩ → Calls Try.prog 26 #[sval A B c d ⟨rv, rh⟩] W (ROut W ux) from fun A B c d W k => by have kk := UsedCells_c A B c d ⟨rv, rh⟩ W k (by show rv.length ≤ _; omega) (by show rh.length ≤ _; omega); rw [← hux] at kk; exact kk)
  have HR := Lib.hid hr
  have HUS := Lib.hid hus
  have HUX := Lib.hid hux
  clear hr hus hux
  go_wp2_with fail
  refine (CI.out _ (S.grow (by repeat (first | exact Grow.refl _ | assumption | refine Grow.alloc ?_ _ | refine Grow.drew ?_ | refine Grow.drewN ?_ _ | refine Grow.trans ?_ (by assumption) | refine Grow.below ?_ (by assumption) (by first | exact Nat.le_refl _ | omega))))).mono ?_
  rintro e w_1 ⟨A2, B2, c2, d2, rfl, o2, g_1⟩
  have q : Grow w1 w_1 := (by repeat (first | exact Grow.refl _ | assumption | refine Grow.alloc ?_ _ | refine Grow.drew ?_ | refine Grow.drewN ?_ _ | refine Grow.trans ?_ (by assumption) | refine Grow.below ?_ (by assumption) (by first | exact Nat.le_refl _ | omega)))
  have ys := (Box2.new w1 25 (.slice A1 v.length c1) (.slice B1 h.length d1)).grow g_1
  have zw_1 := ys.lt
  replace S := S.grow q
  replace G := G.trans q
  clear q g_1
  have X := o2.st
  clear o2
  obtain ⟨ys0, ys1, _, _⟩ := ys.facts
  have ys2 := ys.lt
  go_wp2_with fail
  refine (CS.out _ (S.grow (by repeat (first | exact Grow.refl _ | assumption | refine Grow.alloc ?_ _ | refine Grow.drew ?_ | refine Grow.drewN ?_ _ | refine Grow.trans ?_ (by assumption) | refine Grow.below ?_ (by assumption) (by first | exact Nat.le_refl _ | omega))))).mono ?_
  rintro e w_2 ⟨A3, B3, c3, d3, rfl, o3, g_2⟩
  clear ys0 ys1 ys2
  have q : Grow w_1 w_2 := (by repeat (first | exact Grow.refl _ | assumption | refine Grow.alloc ?_ _ | refine Grow.drew ?_ | refine Grow.drewN ?_ _ | refine Grow.trans ?_ (by assumption) | refine Grow.below ?_ (by assumption) (by first | exact Nat.le_refl _ | omega)))
  have yx := (Box2.new w_1 25 (.slice A2 rv.length c2) (.slice B2 rh.length d2)).grow g_2
  have zw_2 := yx.lt
  replace ys := ys.grow q
  replace S := S.grow q
  replace X := X.grow q
  replace G := G.trans q
  clear q g_2
  have W := o3.st
  clear o3
  obtain ⟨yx0, yx1, _, _⟩ := yx.facts
  have yx2 := yx.lt
  go_wp2_with fail
  refine (StateSame_c A2 B2 A3 B3 c2 d2 c3 d3 ⟨rv, rh⟩ ⟨rv, rh⟩ _ (X.grow (by repeat (first | exact Grow.refl _ | assumption | refine Grow.alloc ?_ _ | refine Grow.drew ?_ | refine Grow.drewN ?_ _ | refine Grow.trans ?_ (by assumption) | refine Grow.below ?_ (by assumption) (by first | exact Nat.le_refl _ | omega)))) (W.grow (by repeat (first | exact Grow.refl _ | assumption | refine Grow.alloc ?_ _ | refine Grow.drew ?_ | refine Grow.drewN ?_ _ | refine Grow.trans ?_ (by assumption) | refine Grow.below ?_ (by assumption) (by first | exact Nat.le_refl _ | omega)))) (by show rv.length ≤ _; omega) (by show rh.length ≤ _; omega) (by show rv.length ≤ _; omega) (by show rh.length ≤ _; omega)).mono ?_
  rintro e w_3 ⟨rfl, g_3⟩
  clear yx0 yx1 yx2
  have q : Grow w_2 w_3 := (by repeat (first | exact Grow.refl _ | assumption | refine Grow.alloc ?_ _ | refine Grow.drew ?_ | refine Grow.drewN ?_ _ | refine Grow.trans ?_ (by assumption) | refine Grow.below ?_ (by assumption) (by first | exact Nat.le_refl _ | omega)))
  have yw := (Box2.new w_2 25 (.slice A3 rv.length c3) (.slice B3 rh.length d3)).grow g_3
  have zw_3 := yw.lt
  replace ys := ys.grow q
  replace yx := yx.grow q
  replace S := S.grow q
  replace X := X.grow q
  replace W := W.grow q
  replace G := G.trans q
  clear q g_3
  clear CI CS
  cases rb with
  | false =>
    obtain ⟨yx0, yx1, _, _⟩ := yx.facts
    have yx2 := yx.lt
    obtain ⟨yw0, yw1, _, _⟩ := yw.facts
    have yw2 := yw.lt
    go_wp2_with fail
    refine (StateSame_c A2 B2 A3 B3 c2 d2 c3 d3 ⟨rv, rh⟩ ⟨rv, rh⟩ _ (X.grow (by repeat (first | exact Grow.refl _ | assumption | refine Grow.alloc ?_ _ | refine Grow.drew ?_ | refine Grow.drewN ?_ _ | refine Grow.trans ?_ (by assumption) | refine Grow.below ?_ (by assumption) (by first | exact Nat.le_refl _ | omega)))) (W.grow (by repeat (first | exact Grow.refl _ | assumption | refine Grow.alloc ?_ _ | refine Grow.drew ?_ | refine Grow.drewN ?_ _ | refine Grow.trans ?_ (by assumption) | refine Grow.below ?_ (by assumption) (by first | exact Nat.le_refl _ | omega)))) (by show rv.length ≤ _; omega) (by show rh.length ≤ _; omega) (by show rv.length ≤ _; omega) (by show rh.length ≤ _; omega)).mono ?_
    rintro e w_4 ⟨rfl, g_4⟩
    clear yx0 yx1 yx2 yw0 yw1 yw2
    have q : Grow w_3 w_4 := (by repeat (first | exact Grow.refl _ | assumption | refine Grow.alloc ?_ _ | refine Grow.drew ?_ | refine Grow.drewN ?_ _ | refine Grow.trans ?_ (by assumption) | refine Grow.below ?_ (by assumption) (by first | exact Nat.le_refl _ | omega)))
    have zw_4 := q.le
    replace ys := ys.grow q
    replace yx := yx.grow q
    replace yw := yw.grow q
    replace S := S.grow q
    replace X := X.grow q
    replace W := W.grow q
    replace G := G.trans q
    clear q g_4
    go_wp2_with fail
    go_ret
    exact ⟨by simp, G⟩
  | true =>
    clear W yw
    have L := Lib.hid (Pl.alloc_law HR.out)
    have hlen : ((ux.length : Int) == (us.length : Int) + 1) = true := by have hh := L.out.len; rw [← HUS.out, ← HUX.out] at hh; simp; omega
    have C1 := Lib.hid (show ∀ W, Sts W A1 B1 ⟨v, h⟩ → Calls Try.prog 18 #[sval A1 B1 c1 d1 ⟨v, h⟩, .int .i64 nn] W (fun e w' => e = .returned (.tuple #[.int .i64 0, .bool false]) ∧ Grow W w') from fun W k => by have kk := ReadCell_c A1 B1 c1 d1 ⟨v, h⟩ nn W k (by show v.length ≤ _; omega) (by show h.length ≤ _; omega); rw [L.out.no] at kk; exact kk)
    have C2 := Lib.hid (show ∀ W, Sts W A2 B2 ⟨rv, rh⟩ → Calls Try.prog 36 #[sval A2 B2 c2 d2 ⟨rv, rh⟩, .int .i64 nn] W (RSt W (⟨v, h⟩, true)) from fun W k => by have kk := FreeCell_c A2 B2 c2 d2 ⟨rv, rh⟩ nn W k (by show rv.length ≤ _; omega) (by show rh.length ≤ _; omega); rw [L.out.back] at kk; exact kk)
    obtain ⟨ys0, ys1, _, _⟩ := ys.facts
    have ys2 := ys.lt
    go_wp2_with fail
    refine (C1.out _ S).mono ?_
    rintro e w_4 ⟨rfl, g_4⟩
    clear ys0 ys1 ys2
    have q : Grow w_3 w_4 := (by repeat (first | exact Grow.refl _ | assumption | refine Grow.alloc ?_ _ | refine Grow.drew ?_ | refine Grow.drewN ?_ _ | refine Grow.trans ?_ (by assumption) | refine Grow.below ?_ (by assumption) (by first | exact Nat.le_refl _ | omega)))
    have zw_4 := q.le
    replace ys := ys.grow q
    replace yx := yx.grow q
    replace S := S.grow q
    replace X := X.grow q
    replace G := G.trans q
    clear q g_4
    obtain ⟨yx0, yx1, _, _⟩ := yx.facts
    have yx2 := yx.lt
    go_wp2_with fail
    refine (C2.out _ X).mono ?_
    rintro e w_5 ⟨A7, B7, c7, d7, rfl, o7, g_5⟩
    clear yx0 yx1 yx2
    have q : Grow w_4 w_5 := (by repeat (first | exact Grow.refl _ | assumption | refine Grow.alloc ?_ _ | refine Grow.drew ?_ | refine Grow.drewN ?_ _ | refine Grow.trans ?_ (by assumption) | refine Grow.below ?_ (by assumption) (by first | exact Nat.le_refl _ | omega)))
    have zw_5 := q.le
    replace ys := ys.grow q
    replace yx := yx.grow q
    replace S := S.grow q
    replace X := X.grow q
    replace G := G.trans q
    clear q g_5
    have Y := o7.st
    clear o7
    go_wp2_with fail
    have q : Grow w_5 (w_5.alloc (.cells #[.slice A7 v.length c7, .slice B7 h.length d7] 25)) := (by repeat (first | exact Grow.refl _ | assumption | refine Grow.alloc ?_ _ | refine Grow.drew ?_ | refine Grow.drewN ?_ _ | refine Grow.trans ?_ (by assumption) | refine Grow.below ?_ (by assumption) (by first | exact Nat.le_refl _ | omega)))
    have yy := Box2.new w_5 25 (.slice A7 v.length c7) (.slice B7 h.length d7)
    replace ys := ys.grow q
    replace yx := yx.grow q
    replace S := S.grow q
    replace X := X.grow q
    replace Y := Y.grow q
    replace G := G.trans q
    clear q
    generalize w_5.alloc (.cells #[.slice A7 v.length c7, .slice B7 h.length d7] 25) = w_5b at *
    obtain ⟨ys0, ys1, _, _⟩ := ys.facts
    have ys2 := ys.lt
    obtain ⟨yx0, yx1, _, _⟩ := yx.facts
    have yx2 := yx.lt
    obtain ⟨yy0, yy1, _, _⟩ := yy.facts
    have yy2 := yy.lt
    have hwr : IntKind.i64.wrap ((us.length : Int) + 1) = (us.length : Int) + 1 := IntWalk.i64_in _ (by omega)
    go_region_held3 (fun W => W.cell? ⟨w1.heap.size, 0, none⟩ = some (.slice A1 v.length c1) ∧ W.cell? ⟨w1.heap.size, 1, none⟩ = some (.slice B1 h.length d1) ∧ W.cell? ⟨w_1.heap.size, 0, none⟩ = some (.slice A2 rv.length c2) ∧ W.cell? ⟨w_1.heap.size, 1, none⟩ = some (.slice B2 rh.length d2) ∧ W.cell? ⟨w_5.heap.size, 0, none⟩ = some (.slice A7 v.length c7) ∧ W.cell? ⟨w_5.heap.size, 1, none⟩ = some (.slice B7 h.length d7))
      (first | go_keep | (go_split_ands; exact ⟨g22.cell (by assumption), g22.cell (by assumption), g22.cell (by assumption), g22.cell (by assumption), g22.cell (by assumption), g22.cell (by assumption)⟩) | (go_split_ands; exact ⟨g21.cell (by assumption), g21.cell (by assumption), g21.cell (by assumption), g21.cell (by assumption), g21.cell (by assumption), g21.cell (by assumption)⟩) | (go_split_ands; exact ⟨g20.cell (by assumption), g20.cell (by assumption), g20.cell (by assumption), g20.cell (by assumption), g20.cell (by assumption), g20.cell (by assumption)⟩))
      (first
        | (go_at_call 15; refine (StateSame_c A7 B7 A1 B1 c7 d7 c1 d1 ⟨v, h⟩ ⟨v, h⟩ _ (Y.grow (by repeat (first | exact Grow.refl _ | assumption | refine Grow.alloc ?_ _ | refine Grow.drew ?_ | refine Grow.drewN ?_ _ | refine Grow.trans ?_ (by assumption) | refine Grow.below ?_ (by assumption) (by first | exact Nat.le_refl _ | omega)))) (S.grow (by repeat (first | exact Grow.refl _ | assumption | refine Grow.alloc ?_ _ | refine Grow.drew ?_ | refine Grow.drewN ?_ _ | refine Grow.trans ?_ (by assumption) | refine Grow.below ?_ (by assumption) (by first | exact Nat.le_refl _ | omega)))) (by show v.length ≤ _; omega) (by show h.length ≤ _; omega) (by show v.length ≤ _; omega) (by show h.length ≤ _; omega)).mono ?_; rintro e w20 ⟨rfl, g20⟩)
        | (go_at_call 26; (with_reducible refine (CX.out A2 B2 c2 d2 _ (X.grow (by repeat (first | exact Grow.refl _ | assumption | refine Grow.alloc ?_ _ | refine Grow.drew ?_ | refine Grow.drewN ?_ _ | refine Grow.trans ?_ (by assumption) | refine Grow.below ?_ (by assumption) (by first | exact Nat.le_refl _ | omega))))).mono ?_); rintro e w21 ⟨A21, c21, rfl, o21, g21⟩)
        | (go_at_call 26; (with_reducible refine (CU.out _ (S.grow (by repeat (first | exact Grow.refl _ | assumption | refine Grow.alloc ?_ _ | refine Grow.drew ?_ | refine Grow.drewN ?_ _ | refine Grow.trans ?_ (by assumption) | refine Grow.below ?_ (by assumption) (by first | exact Nat.le_refl _ | omega))))).mono ?_); rintro e w22 ⟨A22, c22, rfl, o22, g22⟩))
    have GE : Grow w w22 := G.trans (by repeat (first | exact Grow.refl _ | assumption | refine Grow.alloc ?_ _ | refine Grow.drew ?_ | refine Grow.drewN ?_ _ | refine Grow.trans ?_ (by assumption) | refine Grow.below ?_ (by assumption) (by first | exact Nat.le_refl _ | omega)))
    go_wp2_with fail
    go_ret
    exact ⟨rfl, GE⟩

set_option maxRecDepth 100000 in
theorem lifted (os : Os) (started : os.Started) (H : Type) (enc : TypeId × Value → H) :
    ReturnsInHanded {} Try.checked os 11 .any (Rows.fnAllocFreeSpec.pre6 enc Try.prog Try.f11 Rows.fnAllocFreeRow.domain false) (Rows.fnAllocFreeSpec.post enc Try.prog Try.f11 false true false false) := by
  refine returnsInHanded_of_change (C := Try.checked) own_knob started (by kernel_rfl) Try.func11
    (ChangeSpec.witness6 (enc := enc) (C := Try.checked) false ⟨#[], #[.slice none 0 0], []⟩ 8 (by kernel_rfl) (by kernel_rfl) (by kernel_rfl) (by kernel_rfl)) ?_
  intro W base args ds gs before hval0 hW hcnd _
  have hval : ∀ (j : Nat) t v, Try.f11.params[j]? = some t → args[j]? = some v → Value.okWide Try.prog W .any base t v := hval0
  have hW' := hW
  obtain ⟨p, q, hA0, hV, rfl, hfz, hnd⟩ := hW
  have hA : DataW.TrodAll enc Try.prog W 0 (fun _ => true) true Try.f11.params.toList args.toList ds p := hA0
  rw [Try.params11] at hA hval
  obtain ⟨v0, vs0, d0, ds0, p0, q0, hargs, rfl, rfl, h0, r0⟩ := trodAll_cons hA
  obtain ⟨rfl, rfl, rfl⟩ := trodAll_nil r0
  obtain rfl : args = #[v0] := by cases args; simp_all
  obtain ⟨rfl, rfl⟩ := trodVars_none hV
  have k0 := h0
  have lt0 : ∀ x ∈ p0, x.block < W.heap.size := by obtain ⟨m, hm⟩ := k0; exact DataW.trod_lt m _ _ _ hm
  obtain ⟨a0, len0, cap0, rfl⟩ := okWide_slice Try.underlying22 (hval 0 22 v0 rfl rfl)
  obtain ⟨hb0, w0, hc0⟩ : len0 ≤ 9223372036854775807 ∧ Bytes W a0 len0 ∧ len0 ≤ cap0 := by
    obtain ⟨fuel, hf⟩ := h0
    exact open_bytesL (by simpa [Value.cells] using hf)
  clear hA0 hval0
  refine (walk a0 cap0 len0 W w0 hb0 hc0).mono fun e W' ⟨he, bel⟩ => ?_
  subst he
  exact ⟨_, rfl, _, _, _, [], _, [], hW', trodAll_mk1 (shut_bool Try.underlying4 _), (trodAll_cons_mk (Below.trod laid_out (by kernel_rfl) (of_decide_eq_true (by kernel_rfl)) k0 bel lt0) trodAll_mk0), rfl, bel.frame _, fun h => by cases h⟩

theorem over : Rows.fnAllocFreeRow.holds Try.pinned (OpenSpec.ofChange Rows.fnAllocFreeSpec) :=
  OpenClaim.holds_of_wide 11 Try.f11 rfl rfl rfl rfl rfl rfl rfl ⟨rfl, rfl, rfl, rfl, rfl⟩ rfl rfl rfl rfl rfl (by kernel_rfl) Try.func11 (by kernel_rfl)
    (of_decide_eq_true (by kernel_rfl)) (by unfold Func.isWrapper; first | (rw [if_pos (by decide +kernel)]; kernel_rfl) | (rw [if_neg (by decide +kernel)]; exact ⟨rfl, rfl⟩))
    (fun os started H enc _ => lifted os started H enc)

/-- The statement. -/
theorem proved : Rows.FnAllocFreeSaid := over
#print axioms proved

end Go.Proofs.Ytagihhainhdhfaa.lawFnAllocFree
