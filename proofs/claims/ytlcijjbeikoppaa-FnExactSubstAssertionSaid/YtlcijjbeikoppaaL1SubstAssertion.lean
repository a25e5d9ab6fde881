/- FnExactSubstAssertion: for every assertion and all numbers the program's SubstAssertion answers as the reference does and leaves its arguments alone. No conditions. -/
import Derived.Test.YtlcijjbeikoppaaAs9
import Derived.Test.YtlcijjbeikoppaaRowAs
namespace Go.Proofs.Ytlcijjbeikoppaa.lawFnExactSubstAssertion
open Go.ChangeShapes Go.WideShapes Go.ChangeAt Go.RowKit Go.Joins Go.Deep
open Go.ChangeMaps (open_string shut_string)
set_option linter.unusedVariables false

set_option maxRecDepth 100000 in
set_option maxHeartbeats 6400000 in
theorem walk (A : Option Addr) (c : Nat) (v : List Pl.Fct) (B : Option Addr) (d : Nat) (h : List Pl.Atm) (t : Int) (x : Int) (w : World) (hA : Facts w A v) (hB : Atoms w B h) (hn : v.length ≤ 9223372036854775807) (hm : h.length ≤ 9223372036854775807) (h_t : -9223372036854775808 ≤ t ∧ t ≤ 9223372036854775807) (h_x : -9223372036854775808 ≤ x ∧ x ≤ 9223372036854775807) :
    Calls Try.prog 3 #[.agg #[.slice A v.length c, .slice B h.length d], .int .i64 t, .int .i64 x] w fun e w' => e = .returned (.bool true) ∧ Grow w w' := by
  have hS : Asrs w A B ⟨v, h⟩ := ⟨hA, hB⟩
  by_cases h20 : v.length + h.length ≤ 1048576
  · have hs := Lib.hid (show szv2 v.length h.length 1048576 = 1048576 - v.length - h.length by unfold szv2; rw [if_neg (by omega)])
    have h1 : v.length ≤ 1048576 := by omega
    have h2 : h.length ≤ 1048576 := by omega
    obtain ⟨r, hr⟩ : ∃ r, r = Pl.sbR ⟨v, h⟩ t x := ⟨_, rfl⟩
    have hl : r.1.f.length ≤ 1048576 ∧ r.1.a.length ≤ 1048576 := by rw [hr]; exact Pl.sbR_lenN _ _ _ h1 h2
    have CS := Lib.hid (show ∀ A B c d W, Asrs W A B ⟨v, h⟩ → Calls Try.prog 8 #[asval A B c d ⟨v, h⟩, .int .i64 t, .int .i64 x] W (RAs W r) from fun A B c d W k => by rw [hr]; exact sSubstAssertion_c A B c d ⟨v, h⟩ t x W k (by show v.length ≤ _; omega) (by show h.length ≤ _; omega))
    have CI := Lib.hid (show ∀ A B c d W, Asrs W A B ⟨v, h⟩ → Calls Try.prog 10 #[asval A B c d ⟨v, h⟩, .int .i64 t, .int .i64 x] W (RAs W r) from fun A B c d W k => by rw [hr]; exact SubstAssertion_c A B c d ⟨v, h⟩ t x W k (by show v.length ≤ _; omega) (by show h.length ≤ _; omega))
    obtain ⟨⟨rv, rh⟩, rb⟩ := r
    have hl1 : rv.length ≤ 1048576 := hl.1
    have hl2 : rh.length ≤ 1048576 := hl.2
    clear hr hl
    have hS0 := hS
    clear hA hB
    go_enter Try.func3, Try.ntmps3
    go_wp2_with fail
    refine (szAssertion_c A B v.length h.length c d 1048576 _ hn hm (by omega) (by omega)).mono ?_
    rintro e w0 ⟨rfl, g0⟩
    have q : Grow w w0 := (by repeat (first | exact Grow.refl _ | assumption | refine Grow.alloc ?_ _ | refine Grow.drew ?_ | refine Grow.drewN ?_ _ | refine Grow.trans ?_ (by assumption) | refine Grow.below ?_ (by assumption) (by first | exact Nat.le_refl _ | omega)))
    have yp := (Box2.new w 25 (.slice A v.length c) (.slice B h.length d)).grow g0
    have zw0 := yp.lt
    replace hS := hS.grow q
    have G := q
    clear q g0
    rw [hs.out]
    clear hs
    obtain ⟨yp0, yp1, _, _⟩ := yp.facts
    have yp2 := yp.lt
    go_wp2_with fail
    refine (toAssertion_c A B c d ⟨v, h⟩ _ (hS.grow (by repeat (first | exact Grow.refl _ | assumption | refine Grow.alloc ?_ _ | refine Grow.drew ?_ | refine Grow.drewN ?_ _ | refine Grow.trans ?_ (by assumption) | refine Grow.below ?_ (by assumption) (by first | exact Nat.le_refl _ | omega)))) h1 h2).mono ?_
    rintro e w1 ⟨A1, B1, c1, d1, rfl, o1, g1⟩
    clear yp0 yp1 yp2
    have q : Grow w0 w1 := (by repeat (first | exact Grow.refl _ | assumption | refine Grow.alloc ?_ _ | refine Grow.drew ?_ | refine Grow.drewN ?_ _ | refine Grow.trans ?_ (by assumption) | refine Grow.below ?_ (by assumption) (by first | exact Nat.le_refl _ | omega)))
    have zw1 := q.le
    replace yp := yp.grow q
    replace hS := hS.grow q
    replace G := G.trans q
    clear q g1
    go_wp2_with fail
    refine (CS.out A1 B1 c1 d1 _ o1.st).mono ?_
    rintro e w2 ⟨A2, B2, c2, d2, rfl, o2, g2⟩
    have q : Grow w1 w2 := (by repeat (first | exact Grow.refl _ | assumption | refine Grow.alloc ?_ _ | refine Grow.drew ?_ | refine Grow.drewN ?_ _ | refine Grow.trans ?_ (by assumption) | refine Grow.below ?_ (by assumption) (by first | exact Nat.le_refl _ | omega)))
    have zw2 := q.le
    replace yp := yp.grow q
    replace hS := hS.grow q
    replace G := G.trans q
    clear q g2
    clear o1 CS
    have b2 := o2.bdv
    have b2h := o2.bdh
    obtain ⟨yp0, yp1, _, _⟩ := yp.facts
    have yp2 := yp.lt
    go_wp2_with fail
    refine (toAssertion_c A B c d ⟨v, h⟩ _ (hS.grow (by repeat (first | exact Grow.refl _ | assumption | refine Grow.alloc ?_ _ | refine Grow.drew ?_ | refine Grow.drewN ?_ _ | refine Grow.trans ?_ (by assumption) | refine Grow.below ?_ (by assumption) (by first | exact Nat.le_refl _ | omega)))) h1 h2).mono ?_
    rintro e w3 ⟨A3, B3, c3, d3, rfl, o3, g3⟩
    clear yp0 yp1 yp2
    have q : Grow w2 w3 := (by repeat (first | exact Grow.refl _ | assumption | refine Grow.alloc ?_ _ | refine Grow.drew ?_ | refine Grow.drewN ?_ _ | refine Grow.trans ?_ (by assumption) | refine Grow.below ?_ (by assumption) (by first | exact Nat.le_refl _ | omega)))
    have yw := (Box2.new w2 30 (.slice A2 rv.length c2) (.slice B2 rh.length d2)).grow g3
    have zw3 := yw.lt
    replace yp := yp.grow q
    replace hS := hS.grow q
    replace o2 := o2.grow q
    replace G := G.trans q
    clear q g3
    have b3 := o3.bdv
    have b3h := o3.bdh
    simp only [World.size_alloc] at b3 b3h
    go_wp2_with fail
    refine (CI.out A3 B3 c3 d3 _ (o3.st.grow (by repeat (first | exact Grow.refl _ | assumption | refine Grow.alloc ?_ _ | refine Grow.drew ?_ | refine Grow.drewN ?_ _ | refine Grow.trans ?_ (by assumption) | refine Grow.below ?_ (by assumption) (by first | exact Nat.le_refl _ | omega))))).mono ?_
    rintro e w4 ⟨A4, B4, c4, d4, rfl, o4, g4⟩
    have q : Grow w3 w4 := (by repeat (first | exact Grow.refl _ | assumption | refine Grow.alloc ?_ _ | refine Grow.drew ?_ | refine Grow.drewN ?_ _ | refine Grow.trans ?_ (by assumption) | refine Grow.below ?_ (by assumption) (by first | exact Nat.le_refl _ | omega)))
    have yx := (Box2.new w3 30 (.slice A3 v.length c3) (.slice B3 h.length d3)).grow g4
    have zw4 := yx.lt
    replace yp := yp.grow q
    replace yw := yw.grow q
    replace hS := hS.grow q
    replace o2 := o2.grow q
    replace o3 := o3.grow q
    replace G := G.trans q
    clear q g4
    have b4 := o4.bdv
    have b4h := o4.bdh
    simp only [World.size_alloc] at b4 b4h
    obtain ⟨yw0, yw1, _, _⟩ := yw.facts
    have yw2 := yw.lt
    go_wp2_with fail
    refine (eqAssertion_c A4 B4 A2 B2 c4 d4 c2 d2 ⟨rv, rh⟩ ⟨rv, rh⟩ _ (o4.st.grow (by repeat (first | exact Grow.refl _ | assumption | refine Grow.alloc ?_ _ | refine Grow.drew ?_ | refine Grow.drewN ?_ _ | refine Grow.trans ?_ (by assumption) | refine Grow.below ?_ (by assumption) (by first | exact Nat.le_refl _ | omega)))) (o2.st.grow (by repeat (first | exact Grow.refl _ | assumption | refine Grow.alloc ?_ _ | refine Grow.drew ?_ | refine Grow.drewN ?_ _ | refine Grow.trans ?_ (by assumption) | refine Grow.below ?_ (by assumption) (by first | exact Nat.le_refl _ | omega)))) (by show rv.length ≤ _; omega) (by show rh.length ≤ _; omega) (by show rv.length ≤ _; omega) (by show rh.length ≤ _; omega)).mono ?_
    rintro e w5 ⟨rfl, g5⟩
    clear yw0 yw1 yw2
    have q : Grow w4 w5 := (by repeat (first | exact Grow.refl _ | assumption | refine Grow.alloc ?_ _ | refine Grow.drew ?_ | refine Grow.drewN ?_ _ | refine Grow.trans ?_ (by assumption) | refine Grow.below ?_ (by assumption) (by first | exact Nat.le_refl _ | omega)))
    have yg := (Box2.new w4 30 (.slice A4 rv.length c4) (.slice B4 rh.length d4)).grow g5
    have zw5 := yg.lt
    replace yp := yp.grow q
    replace yw := yw.grow q
    replace yx := yx.grow q
    replace hS := hS.grow q
    replace o2 := o2.grow q
    replace o3 := o3.grow q
    replace o4 := o4.grow q
    replace G := G.trans q
    clear q g5
    obtain ⟨yp0, yp1, _, _⟩ := yp.facts
    have yp2 := yp.lt
    obtain ⟨yx0, yx1, _, _⟩ := yx.facts
    have yx2 := yx.lt
    go_wp2_with fail
    go_region_held3 (fun W => W.cell? ⟨w.heap.size, 0, none⟩ = some (.slice A v.length c) ∧ W.cell? ⟨w.heap.size, 1, none⟩ = some (.slice B h.length d) ∧ W.cell? ⟨w3.heap.size, 0, none⟩ = some (.slice A3 v.length c3) ∧ W.cell? ⟨w3.heap.size, 1, none⟩ = some (.slice B3 h.length d3))
      (first | go_keep | (go_split_ands; exact ⟨g7.cell (by assumption), g7.cell (by assumption), g7.cell (by assumption), g7.cell (by assumption)⟩) | (go_split_ands; exact ⟨g6.cell (by assumption), g6.cell (by assumption), g6.cell (by assumption), g6.cell (by assumption)⟩))
      (first
        | (go_at_call 9; refine (toAssertion_c A B c d ⟨v, h⟩ _ (hS.grow (by repeat (first | exact Grow.refl _ | assumption | refine Grow.alloc ?_ _ | refine Grow.drew ?_ | refine Grow.drewN ?_ _ | refine Grow.trans ?_ (by assumption) | refine Grow.below ?_ (by assumption) (by first | exact Nat.le_refl _ | omega)))) h1 h2).mono ?_; rintro e w6 ⟨A6, B6, c6, d6, rfl, o6, g6⟩)
        | (go_at_call 11; refine (eqAssertion_c A3 B3 A6 B6 c3 d3 c6 d6 ⟨v, h⟩ ⟨v, h⟩ _ (o3.st.grow (by repeat (first | exact Grow.refl _ | assumption | refine Grow.alloc ?_ _ | refine Grow.drew ?_ | refine Grow.drewN ?_ _ | refine Grow.trans ?_ (by assumption) | refine Grow.below ?_ (by assumption) (by first | exact Nat.le_refl _ | omega)))) (o6.st.grow (by repeat (first | exact Grow.refl _ | assumption | refine Grow.alloc ?_ _ | refine Grow.drew ?_ | refine Grow.drewN ?_ _ | refine Grow.trans ?_ (by assumption) | refine Grow.below ?_ (by assumption) (by first | exact Nat.le_refl _ | omega)))) (by show v.length ≤ _; omega) (by show h.length ≤ _; omega) (by show v.length ≤ _; omega) (by show h.length ≤ _; omega)).mono ?_; rintro e w7 ⟨rfl, g7⟩))
    clear yp0 yp1 yp2 yx0 yx1 yx2
    have q : Grow w5 w7 := (by repeat (first | exact Grow.refl _ | assumption | refine Grow.alloc ?_ _ | refine Grow.drew ?_ | refine Grow.drewN ?_ _ | refine Grow.trans ?_ (by assumption) | refine Grow.below ?_ (by assumption) (by first | exact Nat.le_refl _ | omega)))
    have zw7 := q.le
    replace yp := yp.grow q
    replace yw := yw.grow q
    replace yx := yx.grow q
    replace yg := yg.grow q
    replace hS := hS.grow q
    replace o2 := o2.grow q
    replace o3 := o3.grow q
    replace o4 := o4.grow q
    replace G := G.trans q
    clear q g6 g7 o6
    obtain ⟨yx0, yx1, _, _⟩ := yx.facts
    have yx2 := yx.lt
    go_wp2_with fail
    refine (markAssertion_m A3 B3 c3 d3 _ ⟨v, h⟩ 1 _ o3 (by show v.length ≤ _; omega) (by show h.length ≤ _; omega) (by omega)).mono ?_
    rintro e w8 ⟨rfl, _, mw8⟩
    clear yx0 yx1 yx2
    have zw8 := mw8.size
    replace yp := mw8.box yp b3 b3h (by omega) (by omega)
    replace yw := mw8.box yw b3 b3h (by omega) (by omega)
    replace yx := mw8.box yx b3 b3h (by omega) (by omega)
    replace yg := mw8.box yg b3 b3h (by omega) (by omega)
    replace o2 := mw8.oas o2 b2 b2h b3 b3h (by omega) (by omega)
    replace o4 := mw8.oas o4 b4 b4h b3 b3h (by omega) (by omega)
    replace hS : Asrs w8 A B ⟨v, h⟩ := hS0.grow (mw8.grow G b3 b3h (by omega) (by omega))
    replace G := mw8.grow G b3 b3h (by omega) (by omega)
    clear mw8
    obtain ⟨yg0, yg1, _, _⟩ := yg.facts
    have yg2 := yg.lt
    obtain ⟨yw0, yw1, _, _⟩ := yw.facts
    have yw2 := yw.lt
    go_wp2_with fail
    refine (eqAssertion_c A4 B4 A2 B2 c4 d4 c2 d2 ⟨rv, rh⟩ ⟨rv, rh⟩ _ (o4.st.grow (by repeat (first | exact Grow.refl _ | assumption | refine Grow.alloc ?_ _ | refine Grow.drew ?_ | refine Grow.drewN ?_ _ | refine Grow.trans ?_ (by assumption) | refine Grow.below ?_ (by assumption) (by first | exact Nat.le_refl _ | omega)))) (o2.st.grow (by repeat (first | exact Grow.refl _ | assumption | refine Grow.alloc ?_ _ | refine Grow.drew ?_ | refine Grow.drewN ?_ _ | refine Grow.trans ?_ (by assumption) | refine Grow.below ?_ (by assumption) (by first | exact Nat.le_refl _ | omega)))) (by show rv.length ≤ _; omega) (by show rh.length ≤ _; omega) (by show rv.length ≤ _; omega) (by show rh.length ≤ _; omega)).mono ?_
    rintro e w9 ⟨rfl, g9⟩
    clear yg0 yg1 yg2 yw0 yw1 yw2
    have q : Grow w8 w9 := (by repeat (first | exact Grow.refl _ | assumption | refine Grow.alloc ?_ _ | refine Grow.drew ?_ | refine Grow.drewN ?_ _ | refine Grow.trans ?_ (by assumption) | refine Grow.below ?_ (by assumption) (by first | exact Nat.le_refl _ | omega)))
    have zw9 := q.le
    replace yp := yp.grow q
    replace yw := yw.grow q
    replace yx := yx.grow q
    replace yg := yg.grow q
    replace hS := hS.grow q
    replace o2 := o2.grow q
    replace o4 := o4.grow q
    replace G := G.trans q
    clear q g9
    obtain ⟨yg0, yg1, _, _⟩ := yg.facts
    have yg2 := yg.lt
    go_wp2_with fail
    refine (markAssertion_m A4 B4 c4 d4 _ ⟨rv, rh⟩ 1 _ o4 (by show rv.length ≤ _; omega) (by show rh.length ≤ _; omega) (by omega)).mono ?_
    rintro e w10 ⟨rfl, ⟨k4, k5⟩, mw10⟩
    clear yg0 yg1 yg2
    have zw10 := mw10.size
    replace yp := mw10.box yp b4 b4h (by omega) (by omega)
    replace yw := mw10.box yw b4 b4h (by omega) (by omega)
    replace yx := mw10.box yx b4 b4h (by omega) (by omega)
    replace yg := mw10.box yg b4 b4h (by omega) (by omega)
    replace o2 := mw10.oas o2 b2 b2h b4 b4h (by omega) (by omega)
    replace hS : Asrs w10 A B ⟨v, h⟩ := hS0.grow (mw10.grow G b4 b4h (by omega) (by omega))
    replace G := mw10.grow G b4 b4h (by omega) (by omega)
    clear mw10
    replace k4 : Facts w10 A4 (markF 1 rv.length) := k4
    replace k5 : Atoms w10 B4 (markX (1 + 3 * rv.length) rh.length) := k5
    obtain ⟨yg0, yg1, _, _⟩ := yg.facts
    have yg2 := yg.lt
    go_wp2_with fail
    refine (heldAssertion_c A4 B4 c4 d4 1 rv.length rh.length _ (k4.grow (by repeat (first | exact Grow.refl _ | assumption | refine Grow.alloc ?_ _ | refine Grow.drew ?_ | refine Grow.drewN ?_ _ | refine Grow.trans ?_ (by assumption) | refine Grow.below ?_ (by assumption) (by first | exact Nat.le_refl _ | omega)))) (k5.grow (by repeat (first | exact Grow.refl _ | assumption | refine Grow.alloc ?_ _ | refine Grow.drew ?_ | refine Grow.drewN ?_ _ | refine Grow.trans ?_ (by assumption) | refine Grow.below ?_ (by assumption) (by first | exact Nat.le_refl _ | omega)))) (by omega) (by omega) (by omega)).mono ?_
    rintro e w11 ⟨rfl, g11⟩
    clear yg0 yg1 yg2
    have q : Grow w10 w11 := (by repeat (first | exact Grow.refl _ | assumption | refine Grow.alloc ?_ _ | refine Grow.drew ?_ | refine Grow.drewN ?_ _ | refine Grow.trans ?_ (by assumption) | refine Grow.below ?_ (by assumption) (by first | exact Nat.le_refl _ | omega)))
    have zw11 := q.le
    replace yp := yp.grow q
    replace yw := yw.grow q
    replace yx := yx.grow q
    replace yg := yg.grow q
    replace hS := hS.grow q
    replace o2 := o2.grow q
    replace k4 := k4.grow q
    replace k5 := k5.grow q
    replace G := G.trans q
    clear q g11
    obtain ⟨yp0, yp1, _, _⟩ := yp.facts
    have yp2 := yp.lt
    go_wp2_with fail
    refine (toAssertion_c A B c d ⟨v, h⟩ _ (hS.grow (by repeat (first | exact Grow.refl _ | assumption | refine Grow.alloc ?_ _ | refine Grow.drew ?_ | refine Grow.drewN ?_ _ | refine Grow.trans ?_ (by assumption) | refine Grow.below ?_ (by assumption) (by first | exact Nat.le_refl _ | omega)))) h1 h2).mono ?_
    rintro e w12 ⟨A12, B12, c12, d12, rfl, o12, g12⟩
    clear yp0 yp1 yp2
    have q : Grow w11 w12 := (by repeat (first | exact Grow.refl _ | assumption | refine Grow.alloc ?_ _ | refine Grow.drew ?_ | refine Grow.drewN ?_ _ | refine Grow.trans ?_ (by assumption) | refine Grow.below ?_ (by assumption) (by first | exact Nat.le_refl _ | omega)))
    have zw12 := q.le
    replace yp := yp.grow q
    replace yw := yw.grow q
    replace yx := yx.grow q
    replace yg := yg.grow q
    replace hS := hS.grow q
    replace o2 := o2.grow q
    replace k4 := k4.grow q
    replace k5 := k5.grow q
    replace G := G.trans q
    clear q g12
    go_wp2_with fail
    refine (CI.out A12 B12 c12 d12 _ o12.st).mono ?_
    rintro e w13 ⟨A13, B13, c13, d13, rfl, o13, g13⟩
    have q : Grow w12 w13 := (by repeat (first | exact Grow.refl _ | assumption | refine Grow.alloc ?_ _ | refine Grow.drew ?_ | refine Grow.drewN ?_ _ | refine Grow.trans ?_ (by assumption) | refine Grow.below ?_ (by assumption) (by first | exact Nat.le_refl _ | omega)))
    have zw13 := q.le
    replace yp := yp.grow q
    replace yw := yw.grow q
    replace yx := yx.grow q
    replace yg := yg.grow q
    replace hS := hS.grow q
    replace o2 := o2.grow q
    replace k4 := k4.grow q
    replace k5 := k5.grow q
    replace G := G.trans q
    clear q g13
    clear o12
    obtain ⟨yw0, yw1, _, _⟩ := yw.facts
    have yw2 := yw.lt
    go_wp2_with fail
    refine (eqAssertion_c A13 B13 A2 B2 c13 d13 c2 d2 ⟨rv, rh⟩ ⟨rv, rh⟩ _ (o13.st.grow (by repeat (first | exact Grow.refl _ | assumption | refine Grow.alloc ?_ _ | refine Grow.drew ?_ | refine Grow.drewN ?_ _ | refine Grow.trans ?_ (by assumption) | refine Grow.below ?_ (by assumption) (by first | exact Nat.le_refl _ | omega)))) (o2.st.grow (by repeat (first | exact Grow.refl _ | assumption | refine Grow.alloc ?_ _ | refine Grow.drew ?_ | refine Grow.drewN ?_ _ | refine Grow.trans ?_ (by assumption) | refine Grow.below ?_ (by assumption) (by first | exact Nat.le_refl _ | omega)))) (by show rv.length ≤ _; omega) (by show rh.length ≤ _; omega) (by show rv.length ≤ _; omega) (by show rh.length ≤ _; omega)).mono ?_
    rintro e w14 ⟨rfl, g14⟩
    clear yw0 yw1 yw2
    have q : Grow w13 w14 := (by repeat (first | exact Grow.refl _ | assumption | refine Grow.alloc ?_ _ | refine Grow.drew ?_ | refine Grow.drewN ?_ _ | refine Grow.trans ?_ (by assumption) | refine Grow.below ?_ (by assumption) (by first | exact Nat.le_refl _ | omega)))
    have yh := (Box2.new w13 30 (.slice A13 rv.length c13) (.slice B13 rh.length d13)).grow g14
    have zw14 := yh.lt
    replace yp := yp.grow q
    replace yw := yw.grow q
    replace yx := yx.grow q
    replace yg := yg.grow q
    replace hS := hS.grow q
    replace o2 := o2.grow q
    replace k4 := k4.grow q
    replace k5 := k5.grow q
    replace G := G.trans q
    clear q g14
    obtain ⟨yg0, yg1, _, _⟩ := yg.facts
    have yg2 := yg.lt
    go_wp2_with fail
    refine (heldAssertion_c A4 B4 c4 d4 1 rv.length rh.length _ (k4.grow (by repeat (first | exact Grow.refl _ | assumption | refine Grow.alloc ?_ _ | refine Grow.drew ?_ | refine Grow.drewN ?_ _ | refine Grow.trans ?_ (by assumption) | refine Grow.below ?_ (by assumption) (by first | exact Nat.le_refl _ | omega)))) (k5.grow (by repeat (first | exact Grow.refl _ | assumption | refine Grow.alloc ?_ _ | refine Grow.drew ?_ | refine Grow.drewN ?_ _ | refine Grow.trans ?_ (by assumption) | refine Grow.below ?_ (by assumption) (by first | exact Nat.le_refl _ | omega)))) (by omega) (by omega) (by omega)).mono ?_
    rintro e w15 ⟨rfl, g15⟩
    clear yg0 yg1 yg2
    have q : Grow w14 w15 := (by repeat (first | exact Grow.refl _ | assumption | refine Grow.alloc ?_ _ | refine Grow.drew ?_ | refine Grow.drewN ?_ _ | refine Grow.trans ?_ (by assumption) | refine Grow.below ?_ (by assumption) (by first | exact Nat.le_refl _ | omega)))
    have zw15 := q.le
    replace yp := yp.grow q
    replace yw := yw.grow q
    replace yx := yx.grow q
    replace yg := yg.grow q
    replace yh := yh.grow q
    replace hS := hS.grow q
    replace o2 := o2.grow q
    replace k4 := k4.grow q
    replace k5 := k5.grow q
    replace G := G.trans q
    clear q g15
    go_wp2_with fail
    go_ret
    exact ⟨rfl, G⟩
  · have hs := Lib.hid (show szv2 v.length h.length 1048576 = -1 by unfold szv2; rw [if_pos (by omega)])
    go_enter Try.func3, Try.ntmps3
    go_wp2_with fail
    refine (szAssertion_c A B v.length h.length c d 1048576 _ hn hm (by omega) (by omega)).mono ?_
    rintro e w0 ⟨rfl, g0⟩
    rw [hs.out]
    go_wp2_with fail
    go_ret
    exact ⟨rfl, (by repeat (first | exact Grow.refl _ | assumption | refine Grow.alloc ?_ _ | refine Grow.drew ?_ | refine Grow.drewN ?_ _ | refine Grow.trans ?_ (by assumption) | refine Grow.below ?_ (by assumption) (by first | exact Nat.le_refl _ | omega)))⟩

set_option maxRecDepth 100000 in
theorem lifted (os : Os) (started : os.Started) (H : Type) (enc : TypeId × Value → H) :
    ReturnsInHanded {} Try.checked os 3 .any (Rows.fnExactSubstAssertionSpec.pre6 enc Try.prog Try.f3 Rows.fnExactSubstAssertionRow.domain false) (Rows.fnExactSubstAssertionSpec.post enc Try.prog Try.f3 false true false false) := by
  refine returnsInHanded_of_change (C := Try.checked) own_knob started (by kernel_rfl) Try.func3
    (ChangeSpec.witness6 (enc := enc) (C := Try.checked) false ⟨#[], #[.agg #[.slice none 0 0, .slice none 0 0], .int .i64 0, .int .i64 0], []⟩ 8 (by kernel_rfl) (by kernel_rfl) (by kernel_rfl) (by kernel_rfl)) ?_
  intro W base args ds gs before hval0 hW hcnd _
  have hval : ∀ (j : Nat) t v, Try.f3.params[j]? = some t → args[j]? = some v → Value.okWide Try.prog W .any base t v := hval0
  have hW' := hW
  obtain ⟨p, q, hA0, hV, rfl, hfz, hnd⟩ := hW
  have hA : DataW.TrodAll enc Try.prog W 0 (fun _ => true) true Try.f3.params.toList args.toList ds p := hA0
  rw [Try.params3] at hA hval
  obtain ⟨v0, vs0, d0, ds0, p0, q0, hargs, rfl, rfl, h0, r0⟩ := trodAll_cons hA
  obtain ⟨v1, vs1, d1, ds1, p1, q1, rfl, rfl, rfl, h1, r1⟩ := trodAll_cons r0
  obtain ⟨v2, vs2, d2, ds2, p2, q2, rfl, rfl, rfl, h2, r2⟩ := trodAll_cons r1
  obtain ⟨rfl, rfl, rfl⟩ := trodAll_nil r2
  obtain rfl : args = #[v0, v1, v2] := by cases args; simp_all
  obtain ⟨rfl, rfl⟩ := trodVars_none hV
  have k0 := h0
  have lt0 : ∀ x ∈ p0, x.block < W.heap.size := by obtain ⟨m, hm⟩ := k0; exact DataW.trod_lt m _ _ _ hm
  obtain ⟨a0, b0, c0, d0, l0, m0, rfl, w0, y0, hb0, hc0⟩ := open_asnV (hval 0 25 v0 rfl rfl) h0
  have k1 := h1
  have lt1 : ∀ x ∈ p1, x.block < W.heap.size := by obtain ⟨m, hm⟩ := k1; exact DataW.trod_lt m _ _ _ hm
  obtain ⟨n1, rfl, rfl, rfl, wf1⟩ := open_int Try.underlying3 (hval 1 3 v1 rfl rfl) h1
  have k2 := h2
  have lt2 : ∀ x ∈ p2, x.block < W.heap.size := by obtain ⟨m, hm⟩ := k2; exact DataW.trod_lt m _ _ _ hm
  obtain ⟨n2, rfl, rfl, rfl, wf2⟩ := open_int Try.underlying3 (hval 2 3 v2 rfl rfl) h2
  clear hA0 hval0
  refine (walk a0 c0 l0 b0 d0 m0 n1 n2 W w0 y0 hb0 hc0 (wf_bd wf1) (wf_bd wf2)).mono fun e W' ⟨he, bel⟩ => ?_
  subst he
  exact ⟨_, rfl, _, _, _, [], _, [], hW', trodAll_mk1 (shut_bool Try.underlying4 _), (trodAll_cons_mk (Below.trod laid_out (by kernel_rfl) (of_decide_eq_true (by kernel_rfl)) k0 bel lt0) (trodAll_cons_mk (Below.trod laid_out (by kernel_rfl) (of_decide_eq_true (by kernel_rfl)) k1 bel lt1) (trodAll_cons_mk (Below.trod laid_out (by kernel_rfl) (of_decide_eq_true (by kernel_rfl)) k2 bel lt2) trodAll_mk0))), rfl, bel.frame _, fun h => by cases h⟩

theorem over : Rows.fnExactSubstAssertionRow.holds Try.pinned (OpenSpec.ofChange Rows.fnExactSubstAssertionSpec) :=
  OpenClaim.holds_of_wide 3 Try.f3 rfl rfl rfl rfl rfl rfl rfl ⟨rfl, rfl, rfl, rfl, rfl⟩ rfl rfl rfl rfl rfl (by kernel_rfl) Try.func3 (by kernel_rfl)
    (of_decide_eq_true (by kernel_rfl)) (by unfold Func.isWrapper; first | (rw [if_pos (by decide +kernel)]; kernel_rfl) | (rw [if_neg (by decide +kernel)]; exact ⟨rfl, rfl⟩))
    (fun os started H enc _ => lifted os started H enc)

/-- The statement. -/
theorem proved : Rows.FnExactSubstAssertionSaid := over
#print axioms proved

end Go.Proofs.Ytlcijjbeikoppaa.lawFnExactSubstAssertion
