/- FnExactDropCells: for every state and list of addresses the program's DropCells answers as the reference does and leaves its arguments alone. No conditions. -/
import Derived.Test.YtcipmmieiafpbaaStM
import Derived.Test.YtcipmmieiafpbaaKq
import Derived.Test.YtcipmmieiafpbaaRowAs
import Derived.Deep.DeepCutAuto
namespace Go.Proofs.Ytcipmmieiafpbaa.lawFnExactDropCells
open Go.ChangeShapes Go.WideShapes Go.ChangeAt Go.RowKit Go.Joins Go.Deep
open Go.ChangeMaps (open_string shut_string)
set_option linter.unusedVariables false
set_option linter.unusedSimpArgs false

set_option maxRecDepth 100000 in
set_option maxHeartbeats 6400000 in
theorem walk (A : Option Addr) (c : Nat) (v : List Int) (B : Option Addr) (d : Nat) (h : List Int) (A9 : Option Addr) (c9 : Nat) (v9 : List Int) (w : World) (hA : Ints w A v) (hB : Ints w B h) (hn : v.length ≤ 9223372036854775807) (hm : h.length ≤ 9223372036854775807) (hA9 : Ints w A9 v9) (hn9 : v9.length ≤ 9223372036854775807) :
    Calls Try.prog 5 #[.agg #[.slice A v.length c, .slice B h.length d], .slice A9 v9.length c9] w fun e w' => e = .returned (.bool true) ∧ Grow w w' := by
  have hS : Sts w A B ⟨v, h⟩ := ⟨hA, hB⟩
  have hT : Ints w A9 v9 := hA9
  have hS0 := hS
  have hT0 := hT
  clear hA hB hA9
  by_cases h9 : 1048576 < (v9.length : Int)
  · go_enter Try.func5, Try.ntmps5
    go_wp2_with fail
    go_ret
    exact ⟨rfl, (by repeat (first | exact Grow.refl _ | assumption | refine Grow.alloc ?_ _ | refine Grow.drew ?_ | refine Grow.drewN ?_ _ | refine Grow.trans ?_ (by assumption) | refine Grow.below ?_ (by assumption) (by first | exact Nat.le_refl _ | omega)))⟩
  by_cases h20 : v.length + h.length ≤ 1048576
  · have hs := Lib.hid (show szv2 v.length h.length 1048576 = 1048576 - v.length - h.length by unfold szv2; rw [if_neg (by omega)])
    have h1 : v.length ≤ 1048576 := by omega
    have h2 : h.length ≤ 1048576 := by omega
    have h3 : v9.length ≤ 1048576 := by omega
    obtain ⟨r, hr⟩ : ∃ r, r = Pl.dropR ⟨v, h⟩ v9 := ⟨_, rfl⟩
    have hl : r.1.v.length ≤ 1048576 ∧ r.1.h.length ≤ 1048576 := by rw [hr]; exact Pl.dropR_len _ _ h1 h2
    have CS := Lib.hid (show ∀ A B c d A9 c9 W, Sts W A B ⟨v, h⟩ → Ints W A9 v9 → Calls Try.prog 26 #[sval A B c d ⟨v, h⟩, .slice A9 v9.length c9] W (RSt W r) from fun A B c d A9 c9 W k k9 => by rw [hr]; exact sDropCells_c A B A9 c d c9 ⟨v, h⟩ v9 W k k9 (by show v.length ≤ _; omega) (by show h.length ≤ _; omega) (by omega))
    have CI := Lib.hid (show ∀ A B c d A9 c9 W, Sts W A B ⟨v, h⟩ → Ints W A9 v9 → Calls Try.prog 27 #[sval A B c d ⟨v, h⟩, .slice A9 v9.length c9] W (RSt W r) from fun A B c d A9 c9 W k k9 => by rw [hr]; exact DropCells_c A B A9 c d c9 ⟨v, h⟩ v9 W k k9 (by show v.length ≤ _; omega) (by show h.length ≤ _; omega) (by omega))
    obtain ⟨⟨rv, rh⟩, rb⟩ := r
    have hl1 : rv.length ≤ 1048576 := hl.1
    have hl2 : rh.length ≤ 1048576 := hl.2
    clear hr hl
    go_enter Try.func5, Try.ntmps5
    go_wp2_with fail
    refine (szState_c A B v.length h.length c d 1048576 _ hn hm (by omega) (by omega)).mono ?_
    rintro e w0 ⟨rfl, g0⟩
    have q : Grow w w0 := (by repeat (first | exact Grow.refl _ | assumption | refine Grow.alloc ?_ _ | refine Grow.drew ?_ | refine Grow.drewN ?_ _ | refine Grow.trans ?_ (by assumption) | refine Grow.below ?_ (by assumption) (by first | exact Nat.le_refl _ | omega)))
    have yp := (Box2.new w 24 (.slice A v.length c) (.slice B h.length d)).grow g0
    have zw0 := yp.lt
    replace hS := hS.grow q
    replace hT := hT.grow q
    have G := q
    clear q g0
    rw [hs.out]
    clear hs
    obtain ⟨yp0, yp1, _, _⟩ := yp.facts
    have yp2 := yp.lt
    go_wp2_with fail
    refine (toState_c A B c d ⟨v, h⟩ _ (hS.grow (by repeat (first | exact Grow.refl _ | assumption | refine Grow.alloc ?_ _ | refine Grow.drew ?_ | refine Grow.drewN ?_ _ | refine Grow.trans ?_ (by assumption) | refine Grow.below ?_ (by assumption) (by first | exact Nat.le_refl _ | omega)))) h1 h2).mono ?_
    rintro e w21 ⟨A21, B21, c21, d21, rfl, o21, g21⟩
    clear yp0 yp1 yp2
    have q : Grow w0 w21 := (by repeat (first | exact Grow.refl _ | assumption | refine Grow.alloc ?_ _ | refine Grow.drew ?_ | refine Grow.drewN ?_ _ | refine Grow.trans ?_ (by assumption) | refine Grow.below ?_ (by assumption) (by first | exact Nat.le_refl _ | omega)))
    have zw21 := q.le
    replace yp := yp.grow q
    replace hS := hS.grow q
    replace hT := hT.grow q
    replace G := G.trans q
    clear q g21
    have s21 := o21.st
    clear o21
    go_wp2_with fail
    refine (toIntS_c A9 c9 v9 _ (hT.grow (by repeat (first | exact Grow.refl _ | assumption | refine Grow.alloc ?_ _ | refine Grow.drew ?_ | refine Grow.drewN ?_ _ | refine Grow.trans ?_ (by assumption) | refine Grow.below ?_ (by assumption) (by first | exact Nat.le_refl _ | omega)))) h3).mono ?_
    rintro e w22 ⟨A22, c22, rfl, o22, g22⟩
    have q : Grow w21 w22 := (by repeat (first | exact Grow.refl _ | assumption | refine Grow.alloc ?_ _ | refine Grow.drew ?_ | refine Grow.drewN ?_ _ | refine Grow.trans ?_ (by assumption) | refine Grow.below ?_ (by assumption) (by first | exact Nat.le_refl _ | omega)))
    have zw22 := q.le
    replace yp := yp.grow q
    replace hS := hS.grow q
    replace hT := hT.grow q
    replace s21 := s21.grow q
    replace G := G.trans q
    clear q g22
    have i22 := OInts.ints rfl o22
    go_wp2_with fail
    refine (CS.out A21 B21 c21 d21 A22 c22 _ (s21.grow (by repeat (first | exact Grow.refl _ | assumption | refine Grow.alloc ?_ _ | refine Grow.drew ?_ | refine Grow.drewN ?_ _ | refine Grow.trans ?_ (by assumption) | refine Grow.below ?_ (by assumption) (by first | exact Nat.le_refl _ | omega)))) i22).mono ?_
    rintro e w2 ⟨A2, B2, c2, d2, rfl, o2, g2⟩
    have q : Grow w22 w2 := (by repeat (first | exact Grow.refl _ | assumption | refine Grow.alloc ?_ _ | refine Grow.drew ?_ | refine Grow.drewN ?_ _ | refine Grow.trans ?_ (by assumption) | refine Grow.below ?_ (by assumption) (by first | exact Nat.le_refl _ | omega)))
    have zw2 := q.le
    replace yp := yp.grow q
    replace hS := hS.grow q
    replace hT := hT.grow q
    replace G := G.trans q
    clear q g2
    clear s21 i22 o22 CS
    have b2 := o2.bdv
    have b2h := o2.bdh
    obtain ⟨yp0, yp1, _, _⟩ := yp.facts
    have yp2 := yp.lt
    go_wp2_with fail
    refine (toState_c A B c d ⟨v, h⟩ _ (hS.grow (by repeat (first | exact Grow.refl _ | assumption | refine Grow.alloc ?_ _ | refine Grow.drew ?_ | refine Grow.drewN ?_ _ | refine Grow.trans ?_ (by assumption) | refine Grow.below ?_ (by assumption) (by first | exact Nat.le_refl _ | omega)))) h1 h2).mono ?_
    rintro e w3 ⟨A3, B3, c3, d3, rfl, o3, g3⟩
    clear yp0 yp1 yp2
    have q : Grow w2 w3 := (by repeat (first | exact Grow.refl _ | assumption | refine Grow.alloc ?_ _ | refine Grow.drew ?_ | refine Grow.drewN ?_ _ | refine Grow.trans ?_ (by assumption) | refine Grow.below ?_ (by assumption) (by first | exact Nat.le_refl _ | omega)))
    have yw := (Box2.new w2 30 (.slice A2 rv.length c2) (.slice B2 rh.length d2)).grow g3
    have zw3 := yw.lt
    replace yp := yp.grow q
    replace hS := hS.grow q
    replace hT := hT.grow q
    replace o2 := o2.grow q
    replace G := G.trans q
    clear q g3
    have b3 := o3.bdv
    have b3h := o3.bdh
    simp only [World.size_alloc] at b3 b3h
    go_wp2_with fail
    refine (toIntS_c A9 c9 v9 _ (hT.grow (by repeat (first | exact Grow.refl _ | assumption | refine Grow.alloc ?_ _ | refine Grow.drew ?_ | refine Grow.drewN ?_ _ | refine Grow.trans ?_ (by assumption) | refine Grow.below ?_ (by assumption) (by first | exact Nat.le_refl _ | omega)))) h3).mono ?_
    rintro e w4 ⟨A4, c4, rfl, o4, g4⟩
    have q : Grow w3 w4 := (by repeat (first | exact Grow.refl _ | assumption | refine Grow.alloc ?_ _ | refine Grow.drew ?_ | refine Grow.drewN ?_ _ | refine Grow.trans ?_ (by assumption) | refine Grow.below ?_ (by assumption) (by first | exact Nat.le_refl _ | omega)))
    have yx := (Box2.new w3 30 (.slice A3 v.length c3) (.slice B3 h.length d3)).grow g4
    have zw4 := yx.lt
    replace yp := yp.grow q
    replace yw := yw.grow q
    replace hS := hS.grow q
    replace hT := hT.grow q
    replace o2 := o2.grow q
    replace o3 := o3.grow q
    replace G := G.trans q
    clear q g4
    replace o4 : OIn w4 _ A4 c4 v9 := ⟨o4⟩
    have b4 := o4.bd
    simp only [World.size_alloc] at b4
    obtain ⟨yx0, yx1, _, _⟩ := yx.facts
    have yx2 := yx.lt
    go_wp2_with fail
    refine (CI.out A3 B3 c3 d3 A4 c4 _ (o3.st.grow (by repeat (first | exact Grow.refl _ | assumption | refine Grow.alloc ?_ _ | refine Grow.drew ?_ | refine Grow.drewN ?_ _ | refine Grow.trans ?_ (by assumption) | refine Grow.below ?_ (by assumption) (by first | exact Nat.le_refl _ | omega)))) (o4.ints.grow (by repeat (first | exact Grow.refl _ | assumption | refine Grow.alloc ?_ _ | refine Grow.drew ?_ | refine Grow.drewN ?_ _ | refine Grow.trans ?_ (by assumption) | refine Grow.below ?_ (by assumption) (by first | exact Nat.le_refl _ | omega))))).mono ?_
    rintro e w5 ⟨A5, B5, c5, d5, rfl, o5, g5⟩
    clear yx0 yx1 yx2
    have q : Grow w4 w5 := (by repeat (first | exact Grow.refl _ | assumption | refine Grow.alloc ?_ _ | refine Grow.drew ?_ | refine Grow.drewN ?_ _ | refine Grow.trans ?_ (by assumption) | refine Grow.below ?_ (by assumption) (by first | exact Nat.le_refl _ | omega)))
    have zw5 := q.le
    replace yp := yp.grow q
    replace yw := yw.grow q
    replace yx := yx.grow q
    replace hS := hS.grow q
    replace hT := hT.grow q
    replace o2 := o2.grow q
    replace o3 := o3.grow q
    replace o4 := o4.grow q
    replace G := G.trans q
    clear q g5
    have b5 := o5.bdv
    have b5h := o5.bdh
    obtain ⟨yw0, yw1, _, _⟩ := yw.facts
    have yw2 := yw.lt
    go_wp2_with fail
    refine (eqState_c A5 B5 A2 B2 c5 d5 c2 d2 ⟨rv, rh⟩ ⟨rv, rh⟩ _ (o5.st.grow (by repeat (first | exact Grow.refl _ | assumption | refine Grow.alloc ?_ _ | refine Grow.drew ?_ | refine Grow.drewN ?_ _ | refine Grow.trans ?_ (by assumption) | refine Grow.below ?_ (by assumption) (by first | exact Nat.le_refl _ | omega)))) (o2.st.grow (by repeat (first | exact Grow.refl _ | assumption | refine Grow.alloc ?_ _ | refine Grow.drew ?_ | refine Grow.drewN ?_ _ | refine Grow.trans ?_ (by assumption) | refine Grow.below ?_ (by assumption) (by first | exact Nat.le_refl _ | omega)))) (by show rv.length ≤ _; omega) (by show rh.length ≤ _; omega) (by show rv.length ≤ _; omega) (by show rh.length ≤ _; omega)).mono ?_
    rintro e w6 ⟨rfl, g6⟩
    clear yw0 yw1 yw2
    have q : Grow w5 w6 := (by repeat (first | exact Grow.refl _ | assumption | refine Grow.alloc ?_ _ | refine Grow.drew ?_ | refine Grow.drewN ?_ _ | refine Grow.trans ?_ (by assumption) | refine Grow.below ?_ (by assumption) (by first | exact Nat.le_refl _ | omega)))
    have yg := (Box2.new w5 30 (.slice A5 rv.length c5) (.slice B5 rh.length d5)).grow g6
    have zw6 := yg.lt
    replace yp := yp.grow q
    replace yw := yw.grow q
    replace yx := yx.grow q
    replace hS := hS.grow q
    replace hT := hT.grow q
    replace o2 := o2.grow q
    replace o3 := o3.grow q
    replace o4 := o4.grow q
    replace o5 := o5.grow q
    replace G := G.trans q
    clear q g6
    obtain ⟨yp0, yp1, _, _⟩ := yp.facts
    have yp2 := yp.lt
    obtain ⟨yx0, yx1, _, _⟩ := yx.facts
    have yx2 := yx.lt
    go_wp2_with fail
    go_region_held3 (fun W => W.cell? ⟨w.heap.size, 0, none⟩ = some (.slice A v.length c) ∧ W.cell? ⟨w.heap.size, 1, none⟩ = some (.slice B h.length d) ∧ W.cell? ⟨w3.heap.size, 0, none⟩ = some (.slice A3 v.length c3) ∧ W.cell? ⟨w3.heap.size, 1, none⟩ = some (.slice B3 h.length d3))
      (first | go_keep | (go_split_ands; exact ⟨g72.cell (by assumption), g72.cell (by assumption), g72.cell (by assumption), g72.cell (by assumption)⟩) | (go_split_ands; exact ⟨g71.cell (by assumption), g71.cell (by assumption), g71.cell (by assumption), g71.cell (by assumption)⟩))
      (first
        | (go_at_call 14; (with_reducible refine (toState_c A B c d ⟨v, h⟩ _ (hS.grow (by repeat (first | exact Grow.refl _ | assumption | refine Grow.alloc ?_ _ | refine Grow.drew ?_ | refine Grow.drewN ?_ _ | refine Grow.trans ?_ (by assumption) | refine Grow.below ?_ (by assumption) (by first | exact Nat.le_refl _ | omega)))) h1 h2).mono ?_); rintro e w71 ⟨A71, B71, c71, d71, rfl, o71, g71⟩)
        | (go_at_call 18; refine (eqState_c A3 B3 A71 B71 c3 d3 c71 d71 ⟨v, h⟩ ⟨v, h⟩ _ (o3.st.grow (by repeat (first | exact Grow.refl _ | assumption | refine Grow.alloc ?_ _ | refine Grow.drew ?_ | refine Grow.drewN ?_ _ | refine Grow.trans ?_ (by assumption) | refine Grow.below ?_ (by assumption) (by first | exact Nat.le_refl _ | omega)))) (o71.st.grow (by repeat (first | exact Grow.refl _ | assumption | refine Grow.alloc ?_ _ | refine Grow.drew ?_ | refine Grow.drewN ?_ _ | refine Grow.trans ?_ (by assumption) | refine Grow.below ?_ (by assumption) (by first | exact Nat.le_refl _ | omega)))) (by show v.length ≤ _; omega) (by show h.length ≤ _; omega) (by show v.length ≤ _; omega) (by show h.length ≤ _; omega)).mono ?_; rintro e w72 ⟨rfl, g72⟩))
    clear yp0 yp1 yp2 yx0 yx1 yx2
    have q : Grow w6 w72 := (by repeat (first | exact Grow.refl _ | assumption | refine Grow.alloc ?_ _ | refine Grow.drew ?_ | refine Grow.drewN ?_ _ | refine Grow.trans ?_ (by assumption) | refine Grow.below ?_ (by assumption) (by first | exact Nat.le_refl _ | omega)))
    have zw72 := q.le
    replace yp := yp.grow q
    replace yw := yw.grow q
    replace yx := yx.grow q
    replace yg := yg.grow q
    replace hS := hS.grow q
    replace hT := hT.grow q
    replace o2 := o2.grow q
    replace o3 := o3.grow q
    replace o4 := o4.grow q
    replace o5 := o5.grow q
    replace G := G.trans q
    clear q g71 g72 o71
    go_wp2_with fail
    refine (toIntS_c A9 c9 v9 _ (hT.grow (by repeat (first | exact Grow.refl _ | assumption | refine Grow.alloc ?_ _ | refine Grow.drew ?_ | refine Grow.drewN ?_ _ | refine Grow.trans ?_ (by assumption) | refine Grow.below ?_ (by assumption) (by first | exact Nat.le_refl _ | omega)))) h3).mono ?_
    rintro e w73 ⟨A73, c73, rfl, o73, g73⟩
    have q : Grow w72 w73 := (by repeat (first | exact Grow.refl _ | assumption | refine Grow.alloc ?_ _ | refine Grow.drew ?_ | refine Grow.drewN ?_ _ | refine Grow.trans ?_ (by assumption) | refine Grow.below ?_ (by assumption) (by first | exact Nat.le_refl _ | omega)))
    have zw73 := q.le
    replace yp := yp.grow q
    replace yw := yw.grow q
    replace yx := yx.grow q
    replace yg := yg.grow q
    replace hS := hS.grow q
    replace hT := hT.grow q
    replace o2 := o2.grow q
    replace o3 := o3.grow q
    replace o4 := o4.grow q
    replace o5 := o5.grow q
    replace G := G.trans q
    clear q g73
    have i73 := OInts.ints rfl o73
    go_wp2_with fail
    refine (eqIntS_c A4 A73 c4 c73 v9 v9 _ (o4.ints.grow (by repeat (first | exact Grow.refl _ | assumption | refine Grow.alloc ?_ _ | refine Grow.drew ?_ | refine Grow.drewN ?_ _ | refine Grow.trans ?_ (by assumption) | refine Grow.below ?_ (by assumption) (by first | exact Nat.le_refl _ | omega)))) i73 (by omega) (by omega)).mono ?_
    rintro e w74 ⟨rfl, g74⟩
    have q : Grow w73 w74 := (by repeat (first | exact Grow.refl _ | assumption | refine Grow.alloc ?_ _ | refine Grow.drew ?_ | refine Grow.drewN ?_ _ | refine Grow.trans ?_ (by assumption) | refine Grow.below ?_ (by assumption) (by first | exact Nat.le_refl _ | omega)))
    have zw74 := q.le
    replace yp := yp.grow q
    replace yw := yw.grow q
    replace yx := yx.grow q
    replace yg := yg.grow q
    replace hS := hS.grow q
    replace hT := hT.grow q
    replace o2 := o2.grow q
    replace o3 := o3.grow q
    replace o4 := o4.grow q
    replace o5 := o5.grow q
    replace G := G.trans q
    clear q g74
    clear i73 o73
    obtain ⟨yx0, yx1, _, _⟩ := yx.facts
    have yx2 := yx.lt
    go_wp2_with fail
    refine (markState_m A3 B3 c3 d3 _ ⟨v, h⟩ 1 _ o3 (by show v.length ≤ _; omega) (by show h.length ≤ _; omega) (by omega)).mono ?_
    rintro e w8 ⟨rfl, _, mw8⟩
    clear yx0 yx1 yx2
    have zw8 := mw8.size
    replace yp := mw8.box yp b3 b3h (by omega) (by omega)
    replace yw := mw8.box yw b3 b3h (by omega) (by omega)
    replace yx := mw8.box yx b3 b3h (by omega) (by omega)
    replace yg := mw8.box yg b3 b3h (by omega) (by omega)
    replace o2 := mw8.ost o2 b2 b2h b3 b3h (by omega) (by omega)
    replace o4 := mw8.oin o4 b4 b3 b3h (by omega) (by omega)
    replace o5 := mw8.ost o5 b5 b5h b3 b3h (by omega) (by omega)
    replace hS : Sts w8 A B ⟨v, h⟩ := hS0.grow (mw8.grow G b3 b3h (by omega) (by omega))
    replace hT : Ints w8 A9 v9 := hT0.grow (mw8.grow G b3 b3h (by omega) (by omega))
    replace G := mw8.grow G b3 b3h (by omega) (by omega)
    clear mw8
    go_wp2_with fail
    refine (markIntS_c A4 c4 _ v9 (1 + v.length + h.length) _ o4.o (by omega) (by omega)).mono ?_
    rintro e w9 ⟨rfl, _, mw9⟩
    replace mw9 := Marked.one mw9
    have zw9 := mw9.size
    replace yp := mw9.box yp b4 b4 (by omega) (by omega)
    replace yw := mw9.box yw b4 b4 (by omega) (by omega)
    replace yx := mw9.box yx b4 b4 (by omega) (by omega)
    replace yg := mw9.box yg b4 b4 (by omega) (by omega)
    replace o2 := mw9.ost o2 b2 b2h b4 b4 (by omega) (by omega)
    replace o5 := mw9.ost o5 b5 b5h b4 b4 (by omega) (by omega)
    replace hS : Sts w9 A B ⟨v, h⟩ := hS0.grow (mw9.grow G b4 b4 (by omega) (by omega))
    replace hT : Ints w9 A9 v9 := hT0.grow (mw9.grow G b4 b4 (by omega) (by omega))
    replace G := mw9.grow G b4 b4 (by omega) (by omega)
    clear mw9
    obtain ⟨yg0, yg1, _, _⟩ := yg.facts
    have yg2 := yg.lt
    obtain ⟨yw0, yw1, _, _⟩ := yw.facts
    have yw2 := yw.lt
    go_wp2_with fail
    refine (eqState_c A5 B5 A2 B2 c5 d5 c2 d2 ⟨rv, rh⟩ ⟨rv, rh⟩ _ (o5.st.grow (by repeat (first | exact Grow.refl _ | assumption | refine Grow.alloc ?_ _ | refine Grow.drew ?_ | refine Grow.drewN ?_ _ | refine Grow.trans ?_ (by assumption) | refine Grow.below ?_ (by assumption) (by first | exact Nat.le_refl _ | omega)))) (o2.st.grow (by repeat (first | exact Grow.refl _ | assumption | refine Grow.alloc ?_ _ | refine Grow.drew ?_ | refine Grow.drewN ?_ _ | refine Grow.trans ?_ (by assumption) | refine Grow.below ?_ (by assumption) (by first | exact Nat.le_refl _ | omega)))) (by show rv.length ≤ _; omega) (by show rh.length ≤ _; omega) (by show rv.length ≤ _; omega) (by show rh.length ≤ _; omega)).mono ?_
    rintro e w10 ⟨rfl, g10⟩
    clear yg0 yg1 yg2 yw0 yw1 yw2
    have q : Grow w9 w10 := (by repeat (first | exact Grow.refl _ | assumption | refine Grow.alloc ?_ _ | refine Grow.drew ?_ | refine Grow.drewN ?_ _ | refine Grow.trans ?_ (by assumption) | refine Grow.below ?_ (by assumption) (by first | exact Nat.le_refl _ | omega)))
    have zw10 := q.le
    replace yp := yp.grow q
    replace yw := yw.grow q
    replace yx := yx.grow q
    replace yg := yg.grow q
    replace hS := hS.grow q
    replace hT := hT.grow q
    replace o2 := o2.grow q
    replace o5 := o5.grow q
    replace G := G.trans q
    clear q g10
    obtain ⟨yg0, yg1, _, _⟩ := yg.facts
    have yg2 := yg.lt
    go_wp2_with fail
    refine (markState_m A5 B5 c5 d5 _ ⟨rv, rh⟩ 1 _ o5 (by show rv.length ≤ _; omega) (by show rh.length ≤ _; omega) (by omega)).mono ?_
    rintro e w11 ⟨rfl, ⟨k4, k5⟩, mw11⟩
    clear yg0 yg1 yg2
    have zw11 := mw11.size
    replace yp := mw11.box yp b5 b5h (by omega) (by omega)
    replace yw := mw11.box yw b5 b5h (by omega) (by omega)
    replace yx := mw11.box yx b5 b5h (by omega) (by omega)
    replace yg := mw11.box yg b5 b5h (by omega) (by omega)
    replace o2 := mw11.ost o2 b2 b2h b5 b5h (by omega) (by omega)
    replace hS : Sts w11 A B ⟨v, h⟩ := hS0.grow (mw11.grow G b5 b5h (by omega) (by omega))
    replace hT : Ints w11 A9 v9 := hT0.grow (mw11.grow G b5 b5h (by omega) (by omega))
    replace G := mw11.grow G b5 b5h (by omega) (by omega)
    clear mw11
    replace k4 : Ints w11 A5 (markI 1 rv.length) := k4
    replace k5 : Ints w11 B5 (markI (1 + rv.length) rh.length) := k5
    obtain ⟨yg0, yg1, _, _⟩ := yg.facts
    have yg2 := yg.lt
    go_wp2_with fail
    refine (heldState_c A5 B5 c5 d5 1 rv.length rh.length _ (k4.grow (by repeat (first | exact Grow.refl _ | assumption | refine Grow.alloc ?_ _ | refine Grow.drew ?_ | refine Grow.drewN ?_ _ | refine Grow.trans ?_ (by assumption) | refine Grow.below ?_ (by assumption) (by first | exact Nat.le_refl _ | omega)))) (k5.grow (by repeat (first | exact Grow.refl _ | assumption | refine Grow.alloc ?_ _ | refine Grow.drew ?_ | refine Grow.drewN ?_ _ | refine Grow.trans ?_ (by assumption) | refine Grow.below ?_ (by assumption) (by first | exact Nat.le_refl _ | omega)))) (by omega) (by omega) (by omega)).mono ?_
    rintro e w12 ⟨rfl, g12⟩
    clear yg0 yg1 yg2
    have q : Grow w11 w12 := (by repeat (first | exact Grow.refl _ | assumption | refine Grow.alloc ?_ _ | refine Grow.drew ?_ | refine Grow.drewN ?_ _ | refine Grow.trans ?_ (by assumption) | refine Grow.below ?_ (by assumption) (by first | exact Nat.le_refl _ | omega)))
    have zw12 := q.le
    replace yp := yp.grow q
    replace yw := yw.grow q
    replace yx := yx.grow q
    replace yg := yg.grow q
    replace hS := hS.grow q
    replace hT := hT.grow q
    replace o2 := o2.grow q
    replace k4 := k4.grow q
    replace k5 := k5.grow q
    replace G := G.trans q
    clear q g12
    obtain ⟨yp0, yp1, _, _⟩ := yp.facts
    have yp2 := yp.lt
    go_wp2_with fail
    refine (toState_c A B c d ⟨v, h⟩ _ (hS.grow (by repeat (first | exact Grow.refl _ | assumption | refine Grow.alloc ?_ _ | refine Grow.drew ?_ | refine Grow.drewN ?_ _ | refine Grow.trans ?_ (by assumption) | refine Grow.below ?_ (by assumption) (by first | exact Nat.le_refl _ | omega)))) h1 h2).mono ?_
    rintro e w13 ⟨A13, B13, c13, d13, rfl, o13, g13⟩
    clear yp0 yp1 yp2
    have q : Grow w12 w13 := (by repeat (first | exact Grow.refl _ | assumption | refine Grow.alloc ?_ _ | refine Grow.drew ?_ | refine Grow.drewN ?_ _ | refine Grow.trans ?_ (by assumption) | refine Grow.below ?_ (by assumption) (by first | exact Nat.le_refl _ | omega)))
    have zw13 := q.le
    replace yp := yp.grow q
    replace yw := yw.grow q
    replace yx := yx.grow q
    replace yg := yg.grow q
    replace hS := hS.grow q
    replace hT := hT.grow q
    replace o2 := o2.grow q
    replace k4 := k4.grow q
    replace k5 := k5.grow q
    replace G := G.trans q
    clear q g13
    have s13 := o13.st
    clear o13
    go_wp2_with fail
    refine (toIntS_c A9 c9 v9 _ (hT.grow (by repeat (first | exact Grow.refl _ | assumption | refine Grow.alloc ?_ _ | refine Grow.drew ?_ | refine Grow.drewN ?_ _ | refine Grow.trans ?_ (by assumption) | refine Grow.below ?_ (by assumption) (by first | exact Nat.le_refl _ | omega)))) h3).mono ?_
    rintro e w14 ⟨A14, c14, rfl, o14, g14⟩
    have q : Grow w13 w14 := (by repeat (first | exact Grow.refl _ | assumption | refine Grow.alloc ?_ _ | refine Grow.drew ?_ | refine Grow.drewN ?_ _ | refine Grow.trans ?_ (by assumption) | refine Grow.below ?_ (by assumption) (by first | exact Nat.le_refl _ | omega)))
    have zw14 := q.le
    replace yp := yp.grow q
    replace yw := yw.grow q
    replace yx := yx.grow q
    replace yg := yg.grow q
    replace hS := hS.grow q
    replace hT := hT.grow q
    replace o2 := o2.grow q
    replace k4 := k4.grow q
    replace k5 := k5.grow q
    replace s13 := s13.grow q
    replace G := G.trans q
    clear q g14
    have i14 := OInts.ints rfl o14
    go_wp2_with fail
    refine (CI.out A13 B13 c13 d13 A14 c14 _ (s13.grow (by repeat (first | exact Grow.refl _ | assumption | refine Grow.alloc ?_ _ | refine Grow.drew ?_ | refine Grow.drewN ?_ _ | refine Grow.trans ?_ (by assumption) | refine Grow.below ?_ (by assumption) (by first | exact Nat.le_refl _ | omega)))) i14).mono ?_
    rintro e w15 ⟨A15, B15, c15, d15, rfl, o15, g15⟩
    have q : Grow w14 w15 := (by repeat (first | exact Grow.refl _ | assumption | refine Grow.alloc ?_ _ | refine Grow.drew ?_ | refine Grow.drewN ?_ _ | refine Grow.trans ?_ (by assumption) | refine Grow.below ?_ (by assumption) (by first | exact Nat.le_refl _ | omega)))
    have zw15 := q.le
    replace yp := yp.grow q
    replace yw := yw.grow q
    replace yx := yx.grow q
    replace yg := yg.grow q
    replace hS := hS.grow q
    replace hT := hT.grow q
    replace o2 := o2.grow q
    replace k4 := k4.grow q
    replace k5 := k5.grow q
    replace s13 := s13.grow q
    replace G := G.trans q
    clear q g15
    clear s13 i14 o14
    obtain ⟨yw0, yw1, _, _⟩ := yw.facts
    have yw2 := yw.lt
    go_wp2_with fail
    refine (eqState_c A15 B15 A2 B2 c15 d15 c2 d2 ⟨rv, rh⟩ ⟨rv, rh⟩ _ (o15.st.grow (by repeat (first | exact Grow.refl _ | assumption | refine Grow.alloc ?_ _ | refine Grow.drew ?_ | refine Grow.drewN ?_ _ | refine Grow.trans ?_ (by assumption) | refine Grow.below ?_ (by assumption) (by first | exact Nat.le_refl _ | omega)))) (o2.st.grow (by repeat (first | exact Grow.refl _ | assumption | refine Grow.alloc ?_ _ | refine Grow.drew ?_ | refine Grow.drewN ?_ _ | refine Grow.trans ?_ (by assumption) | refine Grow.below ?_ (by assumption) (by first | exact Nat.le_refl _ | omega)))) (by show rv.length ≤ _; omega) (by show rh.length ≤ _; omega) (by show rv.length ≤ _; omega) (by show rh.length ≤ _; omega)).mono ?_
    rintro e w16 ⟨rfl, g16⟩
    clear yw0 yw1 yw2
    have q : Grow w15 w16 := (by repeat (first | exact Grow.refl _ | assumption | refine Grow.alloc ?_ _ | refine Grow.drew ?_ | refine Grow.drewN ?_ _ | refine Grow.trans ?_ (by assumption) | refine Grow.below ?_ (by assumption) (by first | exact Nat.le_refl _ | omega)))
    have yh := (Box2.new w15 30 (.slice A15 rv.length c15) (.slice B15 rh.length d15)).grow g16
    have zw16 := yh.lt
    replace yp := yp.grow q
    replace yw := yw.grow q
    replace yx := yx.grow q
    replace yg := yg.grow q
    replace hS := hS.grow q
    replace hT := hT.grow q
    replace o2 := o2.grow q
    replace k4 := k4.grow q
    replace k5 := k5.grow q
    replace G := G.trans q
    clear q g16
    obtain ⟨yg0, yg1, _, _⟩ := yg.facts
    have yg2 := yg.lt
    go_wp2_with fail
    refine (heldState_c A5 B5 c5 d5 1 rv.length rh.length _ (k4.grow (by repeat (first | exact Grow.refl _ | assumption | refine Grow.alloc ?_ _ | refine Grow.drew ?_ | refine Grow.drewN ?_ _ | refine Grow.trans ?_ (by assumption) | refine Grow.below ?_ (by assumption) (by first | exact Nat.le_refl _ | omega)))) (k5.grow (by repeat (first | exact Grow.refl _ | assumption | refine Grow.alloc ?_ _ | refine Grow.drew ?_ | refine Grow.drewN ?_ _ | refine Grow.trans ?_ (by assumption) | refine Grow.below ?_ (by assumption) (by first | exact Nat.le_refl _ | omega)))) (by omega) (by omega) (by omega)).mono ?_
    rintro e w17 ⟨rfl, g17⟩
    clear yg0 yg1 yg2
    have q : Grow w16 w17 := (by repeat (first | exact Grow.refl _ | assumption | refine Grow.alloc ?_ _ | refine Grow.drew ?_ | refine Grow.drewN ?_ _ | refine Grow.trans ?_ (by assumption) | refine Grow.below ?_ (by assumption) (by first | exact Nat.le_refl _ | omega)))
    have zw17 := q.le
    replace yp := yp.grow q
    replace yw := yw.grow q
    replace yx := yx.grow q
    replace yg := yg.grow q
    replace yh := yh.grow q
    replace hS := hS.grow q
    replace hT := hT.grow q
    replace o2 := o2.grow q
    replace k4 := k4.grow q
    replace k5 := k5.grow q
    replace G := G.trans q
    clear q g17
    go_wp2_with fail
    go_ret
    exact ⟨rfl, G⟩
  · have hs := Lib.hid (show szv2 v.length h.length 1048576 = -1 by unfold szv2; rw [if_pos (by omega)])
    go_enter Try.func5, Try.ntmps5
    go_wp2_with fail
    refine (szState_c A B v.length h.length c d 1048576 _ hn hm (by omega) (by omega)).mono ?_
    rintro e w0 ⟨rfl, g0⟩
    rw [hs.out]
    go_wp2_with fail
    go_ret
    exact ⟨rfl, (by repeat (first | exact Grow.refl _ | assumption | refine Grow.alloc ?_ _ | refine Grow.drew ?_ | refine Grow.drewN ?_ _ | refine Grow.trans ?_ (by assumption) | refine Grow.below ?_ (by assumption) (by first | exact Nat.le_refl _ | omega)))⟩

set_option maxRecDepth 100000 in
theorem lifted (os : Os) (started : os.Started) (H : Type) (enc : TypeId × Value → H) :
    ReturnsInHanded {} Try.checked os 5 .any (Rows.fnExactDropCellsSpec.pre6 enc Try.prog Try.f5 Rows.fnExactDropCellsRow.domain false) (Rows.fnExactDropCellsSpec.post enc Try.prog Try.f5 false true false false) := by
  refine returnsInHanded_of_change (C := Try.checked) own_knob started (by kernel_rfl) Try.func5
    (ChangeSpec.witness6 (enc := enc) (C := Try.checked) false ⟨#[], #[.agg #[.slice none 0 0, .slice none 0 0], .slice none 0 0], []⟩ 8 (by kernel_rfl) (by kernel_rfl) (by kernel_rfl) (by kernel_rfl)) ?_
  intro W base args ds gs before hval0 hW hcnd _
  have hval : ∀ (j : Nat) t v, Try.f5.params[j]? = some t → args[j]? = some v → Value.okWide Try.prog W .any base t v := hval0
  have hW' := hW
  obtain ⟨p, q, hA0, hV, rfl, hfz, hnd⟩ := hW
  have hA : DataW.TrodAll enc Try.prog W 0 (fun _ => true) true Try.f5.params.toList args.toList ds p := hA0
  rw [Try.params5] at hA hval
  obtain ⟨v0, vs0, d0, ds0, p0, q0, hargs, rfl, rfl, h0, r0⟩ := trodAll_cons hA
  obtain ⟨v1, vs1, d1, ds1, p1, q1, rfl, rfl, rfl, h1, r1⟩ := trodAll_cons r0
  obtain ⟨rfl, rfl, rfl⟩ := trodAll_nil r1
  obtain rfl : args = #[v0, v1] := by cases args; simp_all
  obtain ⟨rfl, rfl⟩ := trodVars_none hV
  have k0 := h0
  have lt0 : ∀ x ∈ p0, x.block < W.heap.size := by obtain ⟨m, hm⟩ := k0; exact DataW.trod_lt m _ _ _ hm
  obtain ⟨a0, b0, c0, d0, l0, m0, rfl, w0, y0, hb0, hc0⟩ := open_stateV (hval 0 24 v0 rfl rfl) h0
  have k1 := h1
  have lt1 : ∀ x ∈ p1, x.block < W.heap.size := by obtain ⟨m, hm⟩ := k1; exact DataW.trod_lt m _ _ _ hm
  obtain ⟨a1, len1, cap1, rfl⟩ := okWide_slice Try.underlying22 (hval 1 22 v1 rfl rfl)
  obtain ⟨l1, hl1, hb1, w1⟩ : ∃ l : List Int, l.length = len1 ∧ len1 ≤ 9223372036854775807 ∧ Ints W a1 l := by
    obtain ⟨fuel, hf⟩ := h1
    exact open_intsL (by simpa [Value.cells] using hf)
  subst hl1
  clear hA0 hval0
  refine (walk a0 c0 l0 b0 d0 m0 a1 cap1 l1 W w0 y0 hb0 hc0 w1 hb1).mono fun e W' ⟨he, bel⟩ => ?_
  subst he
  exact ⟨_, rfl, _, _, _, [], _, [], hW', trodAll_mk1 (shut_bool Try.underlying4 _), (trodAll_cons_mk (Below.trod laid_out (by kernel_rfl) (of_decide_eq_true (by kernel_rfl)) k0 bel lt0) (trodAll_cons_mk (Below.trod laid_out (by kernel_rfl) (of_decide_eq_true (by kernel_rfl)) k1 bel lt1) trodAll_mk0)), rfl, bel.frame _, fun h => by cases h⟩

theorem over : Rows.fnExactDropCellsRow.holds Try.pinned (OpenSpec.ofChange Rows.fnExactDropCellsSpec) :=
  OpenClaim.holds_of_wide 5 Try.f5 rfl rfl rfl rfl rfl rfl rfl ⟨rfl, rfl, rfl, rfl, rfl⟩ rfl rfl rfl rfl rfl (by kernel_rfl) Try.func5 (by kernel_rfl)
    (of_decide_eq_true (by kernel_rfl)) (by unfold Func.isWrapper; first | (rw [if_pos (by decide +kernel)]; kernel_rfl) | (rw [if_neg (by decide +kernel)]; exact ⟨rfl, rfl⟩))
    (fun os started H enc _ => lifted os started H enc)

/-- The statement. -/
theorem proved : Rows.FnExactDropCellsSaid := over
#print axioms proved

end Go.Proofs.Ytcipmmieiafpbaa.lawFnExactDropCells
