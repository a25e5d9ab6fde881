/- FnExactHolds: for every state and assertion the program's Holds answers as the reference does and leaves its arguments alone. No conditions. -/
import Derived.Test.YtcipmmieiafpbaaStM
import Derived.Test.YtcipmmieiafpbaaHs
import Derived.Test.YtcipmmieiafpbaaRowAs
import Derived.Deep.DeepCutAuto
namespace Go.Proofs.Ytcipmmieiafpbaa.lawFnExactHolds
open Go.ChangeShapes Go.WideShapes Go.ChangeAt Go.RowKit Go.Joins Go.Deep
open Go.ChangeMaps (open_string shut_string)
set_option linter.unusedVariables false
set_option linter.unusedSimpArgs false

set_option maxRecDepth 100000 in
set_option maxHeartbeats 6400000 in
theorem walk (A : Option Addr) (c : Nat) (v : List Int) (B : Option Addr) (d : Nat) (h : List Int) (A9 : Option Addr) (c9 : Nat) (fl : List Pl.Fct) (B9 : Option Addr) (d9 : Nat) (al : List Pl.Atm) (w : World) (hA : Ints w A v) (hB : Ints w B h) (hn : v.length ≤ 9223372036854775807) (hm : h.length ≤ 9223372036854775807) (hA9 : Facts w A9 fl) (hB9 : Atoms w B9 al) (hn9 : fl.length ≤ 9223372036854775807) (hm9 : al.length ≤ 9223372036854775807) :
    Calls Try.prog 7 #[.agg #[.slice A v.length c, .slice B h.length d], .agg #[.slice A9 fl.length c9, .slice B9 al.length d9]] w fun e w' => e = .returned (.bool true) ∧ Grow w w' := by
  have hS0 : Sts w A B ⟨v, h⟩ := ⟨hA, hB⟩
  have hT0 : Asrs w A9 B9 ⟨fl, al⟩ := ⟨hA9, hB9⟩
  clear hA hB hA9 hB9
  have yp0 := (Box2.new w 24 (.slice A v.length c) (.slice B h.length d)).grow (show Grow _ ((w.alloc (.cells #[.slice A v.length c, .slice B h.length d] 24)).alloc (.cells #[.slice A9 fl.length c9, .slice B9 al.length d9] 48)) from Grow.alloc (Grow.refl _) _)
  have yq0 := Box2.new (w.alloc (.cells #[.slice A v.length c, .slice B h.length d] 24)) 48 (.slice A9 fl.length c9) (.slice B9 al.length d9)
  simp only [World.size_alloc] at yq0
  have G0 : Grow w ((w.alloc (.cells #[.slice A v.length c, .slice B h.length d] 24)).alloc (.cells #[.slice A9 fl.length c9, .slice B9 al.length d9] 48)) := (by repeat (first | exact Grow.refl _ | assumption | refine Grow.alloc ?_ _ | refine Grow.drew ?_ | refine Grow.drewN ?_ _ | refine Grow.trans ?_ (by assumption) | refine Grow.below ?_ (by assumption) (by first | exact Nat.le_refl _ | omega)))
  have hwz : w.heap.size + 2 ≤ ((w.alloc (.cells #[.slice A v.length c, .slice B h.length d] 24)).alloc (.cells #[.slice A9 fl.length c9, .slice B9 al.length d9] 48)).heap.size := by simp
  by_cases h20 : v.length + h.length ≤ 1048576
  · have hs := Lib.hid (show szv2 v.length h.length 1048576 = 1048576 - v.length - h.length by unfold szv2; rw [if_neg (by omega)])
    have h1 : v.length ≤ 1048576 := by omega
    have h2 : h.length ≤ 1048576 := by omega
    go_enter Try.func7, Try.ntmps7
    go_wp2_with fail
    generalize (w.alloc (.cells #[.slice A v.length c, .slice B h.length d] 24)).alloc (.cells #[.slice A9 fl.length c9, .slice B9 al.length d9] 48) = wz at *
    have hS := hS0.grow G0
    have hT := hT0.grow G0
    have G := G0
    have yp := yp0
    have yq := yq0
    clear yp0 yq0
    refine (szState_c A B v.length h.length c d 1048576 _ hn hm (by omega) (by omega)).mono ?_
    rintro e w0 ⟨rfl, g0⟩
    have q : Grow wz w0 := (by repeat (first | exact Grow.refl _ | assumption | refine Grow.alloc ?_ _ | refine Grow.drew ?_ | refine Grow.drewN ?_ _ | refine Grow.trans ?_ (by assumption) | refine Grow.below ?_ (by assumption) (by first | exact Nat.le_refl _ | omega)))
    have zw0 := q.le
    replace yp := yp.grow q
    replace yq := yq.grow q
    replace hS := hS.grow q
    replace hT := hT.grow q
    replace G := G.trans q
    clear q g0
    rw [hs.out]
    by_cases h21 : fl.length + al.length ≤ 1048576 - v.length - h.length
    · have hs9 := Lib.hid (show szv2 fl.length al.length (1048576 - v.length - h.length : Int) = 1048576 - v.length - h.length - fl.length - al.length by unfold szv2; rw [if_neg (by omega)])
      have h3 : fl.length ≤ 1048576 := by omega
      have h4 : al.length ≤ 1048576 := by omega
      obtain ⟨rb, hr⟩ : ∃ r, r = Pl.holdsB ⟨v, h⟩ ⟨fl, al⟩ := ⟨_, rfl⟩
      have CS := Lib.hid (show ∀ A B c d A9 B9 c9 d9 W, Sts W A B ⟨v, h⟩ → Asrs W A9 B9 ⟨fl, al⟩ → Calls Try.prog 31 #[sval A B c d ⟨v, h⟩, asval A9 B9 c9 d9 ⟨fl, al⟩] W (fun e W' => e = .returned (.bool rb) ∧ Grow W W') from fun A B c d A9 B9 c9 d9 W k k9 => by rw [hr]; exact sHolds_c A B A9 B9 c d c9 d9 ⟨v, h⟩ ⟨fl, al⟩ W k k9 (by show v.length ≤ _; omega) (by show h.length ≤ _; omega) (by show fl.length ≤ _; omega) (by show al.length ≤ _; omega))
      have CI := Lib.hid (show ∀ A B c d A9 B9 c9 d9 W, Sts W A B ⟨v, h⟩ → Asrs W A9 B9 ⟨fl, al⟩ → Calls Try.prog 33 #[sval A B c d ⟨v, h⟩, asval A9 B9 c9 d9 ⟨fl, al⟩] W (fun e W' => e = .returned (.bool rb) ∧ Grow W W') from fun A B c d A9 B9 c9 d9 W k k9 => by rw [hr]; exact Holds_c A B A9 B9 c d c9 d9 ⟨v, h⟩ ⟨fl, al⟩ W k k9 (by show v.length ≤ _; omega) (by show h.length ≤ _; omega) (by show fl.length ≤ _; omega) (by show al.length ≤ _; omega))
      clear hr
      obtain ⟨yq0, yq1, _, _⟩ := yq.facts
      have yq2 := yq.lt
      go_wp2_with fail
      refine (szAssertion_c A9 B9 fl.length al.length c9 d9 (1048576 - v.length - h.length) _ hn9 hm9 (by omega) (by omega)).mono ?_
      rintro e w1 ⟨rfl, g1⟩
      clear yq0 yq1 yq2
      have q : Grow w0 w1 := (by repeat (first | exact Grow.refl _ | assumption | refine Grow.alloc ?_ _ | refine Grow.drew ?_ | refine Grow.drewN ?_ _ | refine Grow.trans ?_ (by assumption) | refine Grow.below ?_ (by assumption) (by first | exact Nat.le_refl _ | omega)))
      have zw1 := q.le
      replace yp := yp.grow q
      replace yq := yq.grow q
      replace hS := hS.grow q
      replace hT := hT.grow q
      replace G := G.trans q
      clear q g1
      rw [hs9.out]
      clear hs hs9
      obtain ⟨yp0, yp1, _, _⟩ := yp.facts
      have yp2 := yp.lt
      obtain ⟨yq0, yq1, _, _⟩ := yq.facts
      have yq2 := yq.lt
      go_wp2_with fail
      go_region_held3 (fun W => W.cell? ⟨w.heap.size, 0, none⟩ = some (.slice A v.length c) ∧ W.cell? ⟨w.heap.size, 1, none⟩ = some (.slice B h.length d) ∧ W.cell? ⟨w.heap.size + 1, 0, none⟩ = some (.slice A9 fl.length c9) ∧ W.cell? ⟨w.heap.size + 1, 1, none⟩ = some (.slice B9 al.length d9))
        (first | go_keep | (go_split_ands; exact ⟨g2.cell (by assumption), g2.cell (by assumption), g2.cell (by assumption), g2.cell (by assumption)⟩) | (go_split_ands; exact ⟨g22.cell (by assumption), g22.cell (by assumption), g22.cell (by assumption), g22.cell (by assumption)⟩) | (go_split_ands; exact ⟨g21.cell (by assumption), g21.cell (by assumption), g21.cell (by assumption), g21.cell (by assumption)⟩))
        (first
          | (go_at_call 14; (with_reducible refine (toState_c A B c d ⟨v, h⟩ _ (hS.grow (by repeat (first | exact Grow.refl _ | assumption | refine Grow.alloc ?_ _ | refine Grow.drew ?_ | refine Grow.drewN ?_ _ | refine Grow.trans ?_ (by assumption) | refine Grow.below ?_ (by assumption) (by first | exact Nat.le_refl _ | omega)))) h1 h2).mono ?_); rintro e w21 ⟨A21, B21, c21, d21, rfl, o21, g21⟩)
          | (go_at_call 32; (with_reducible refine (toAssertion_c A9 B9 c9 d9 ⟨fl, al⟩ _ (hT.grow (by repeat (first | exact Grow.refl _ | assumption | refine Grow.alloc ?_ _ | refine Grow.drew ?_ | refine Grow.drewN ?_ _ | refine Grow.trans ?_ (by assumption) | refine Grow.below ?_ (by assumption) (by first | exact Nat.le_refl _ | omega)))) h3 h4).mono ?_); rintro e w22 ⟨A22, B22, c22, d22, rfl, o22, g22⟩)
          | (go_at_call 31; (refine (CS.out A21 B21 c21 d21 A22 B22 c22 d22 _ (o21.st.grow (by repeat (first | exact Grow.refl _ | assumption | refine Grow.alloc ?_ _ | refine Grow.drew ?_ | refine Grow.drewN ?_ _ | refine Grow.trans ?_ (by assumption) | refine Grow.below ?_ (by assumption) (by first | exact Nat.le_refl _ | omega)))) (o22.st.grow (by repeat (first | exact Grow.refl _ | assumption | refine Grow.alloc ?_ _ | refine Grow.drew ?_ | refine Grow.drewN ?_ _ | refine Grow.trans ?_ (by assumption) | refine Grow.below ?_ (by assumption) (by first | exact Nat.le_refl _ | omega))))).mono ?_); rintro e w2 ⟨rfl, g2⟩))
      clear yp0 yp1 yp2 yq0 yq1 yq2
      have q : Grow w1 w2 := (by repeat (first | exact Grow.refl _ | assumption | refine Grow.alloc ?_ _ | refine Grow.drew ?_ | refine Grow.drewN ?_ _ | refine Grow.trans ?_ (by assumption) | refine Grow.below ?_ (by assumption) (by first | exact Nat.le_refl _ | omega)))
      have zw2 := q.le
      replace yp := yp.grow q
      replace yq := yq.grow q
      replace hS := hS.grow q
      replace hT := hT.grow q
      replace G := G.trans q
      clear q g21 g22 g2 o21 o22
      clear CS
      obtain ⟨yp0, yp1, _, _⟩ := yp.facts
      have yp2 := yp.lt
      go_wp2_with fail
      refine (toState_c A B c d ⟨v, h⟩ _ (hS.grow (by repeat (first | exact Grow.refl _ | assumption | refine Grow.alloc ?_ _ | refine Grow.drew ?_ | refine Grow.drewN ?_ _ | refine Grow.trans ?_ (by assumption) | refine Grow.below ?_ (by assumption) (by first | exact Nat.le_refl _ | omega)))) h1 h2).mono ?_
      rintro e w3 ⟨A3, B3, c3, d3, rfl, o3, g3⟩
      clear yp0 yp1 yp2
      have q : Grow w2 w3 := (by repeat (first | exact Grow.refl _ | assumption | refine Grow.alloc ?_ _ | refine Grow.drew ?_ | refine Grow.drewN ?_ _ | refine Grow.trans ?_ (by assumption) | refine Grow.below ?_ (by assumption) (by first | exact Nat.le_refl _ | omega)))
      have zw3 := q.le
      replace yp := yp.grow q
      replace yq := yq.grow q
      replace hS := hS.grow q
      replace hT := hT.grow q
      replace G := G.trans q
      clear q g3
      obtain ⟨yq0, yq1, _, _⟩ := yq.facts
      have yq2 := yq.lt
      go_wp2_with fail
      refine (toAssertion_c A9 B9 c9 d9 ⟨fl, al⟩ _ (hT.grow (by repeat (first | exact Grow.refl _ | assumption | refine Grow.alloc ?_ _ | refine Grow.drew ?_ | refine Grow.drewN ?_ _ | refine Grow.trans ?_ (by assumption) | refine Grow.below ?_ (by assumption) (by first | exact Nat.le_refl _ | omega)))) h3 h4).mono ?_
      rintro e w4 ⟨A4, B4, c4, d4, rfl, o4, g4⟩
      clear yq0 yq1 yq2
      have q : Grow w3 w4 := (by repeat (first | exact Grow.refl _ | assumption | refine Grow.alloc ?_ _ | refine Grow.drew ?_ | refine Grow.drewN ?_ _ | refine Grow.trans ?_ (by assumption) | refine Grow.below ?_ (by assumption) (by first | exact Nat.le_refl _ | omega)))
      have yx := (Box2.new w3 30 (.slice A3 v.length c3) (.slice B3 h.length d3)).grow g4
      have zw4 := yx.lt
      replace yp := yp.grow q
      replace yq := yq.grow q
      replace hS := hS.grow q
      replace hT := hT.grow q
      replace o3 := o3.grow q
      replace G := G.trans q
      clear q g4
      obtain ⟨yx0, yx1, _, _⟩ := yx.facts
      have yx2 := yx.lt
      go_wp2_with fail
      refine (CI.out A3 B3 c3 d3 A4 B4 c4 d4 _ (o3.st.grow (by repeat (first | exact Grow.refl _ | assumption | refine Grow.alloc ?_ _ | refine Grow.drew ?_ | refine Grow.drewN ?_ _ | refine Grow.trans ?_ (by assumption) | refine Grow.below ?_ (by assumption) (by first | exact Nat.le_refl _ | omega)))) (o4.st.grow (by repeat (first | exact Grow.refl _ | assumption | refine Grow.alloc ?_ _ | refine Grow.drew ?_ | refine Grow.drewN ?_ _ | refine Grow.trans ?_ (by assumption) | refine Grow.below ?_ (by assumption) (by first | exact Nat.le_refl _ | omega))))).mono ?_
      rintro e w5 ⟨rfl, g5⟩
      clear yx0 yx1 yx2
      have q : Grow w4 w5 := (by repeat (first | exact Grow.refl _ | assumption | refine Grow.alloc ?_ _ | refine Grow.drew ?_ | refine Grow.drewN ?_ _ | refine Grow.trans ?_ (by assumption) | refine Grow.below ?_ (by assumption) (by first | exact Nat.le_refl _ | omega)))
      have yy := (Box2.new w4 54 (.slice A4 fl.length c4) (.slice B4 al.length d4)).grow g5
      have zw5 := yy.lt
      replace yp := yp.grow q
      replace yq := yq.grow q
      replace yx := yx.grow q
      replace hS := hS.grow q
      replace hT := hT.grow q
      replace o3 := o3.grow q
      replace o4 := o4.grow q
      replace G := G.trans q
      clear q g5
      obtain ⟨yp0, yp1, _, _⟩ := yp.facts
      have yp2 := yp.lt
      obtain ⟨yx0, yx1, _, _⟩ := yx.facts
      have yx2 := yx.lt
      go_wp2_with fail
      go_region_held3 (fun W => W.cell? ⟨w.heap.size, 0, none⟩ = some (.slice A v.length c) ∧ W.cell? ⟨w.heap.size, 1, none⟩ = some (.slice B h.length d) ∧ W.cell? ⟨w3.heap.size, 0, none⟩ = some (.slice A3 v.length c3) ∧ W.cell? ⟨w3.heap.size, 1, none⟩ = some (.slice B3 h.length d3))
        (first | go_keep | (go_split_ands; exact ⟨g72.cell (by assumption), g72.cell (by assumption), g72.cell (by assumption), g72.cell (by assumption)⟩) | (go_split_ands; exact ⟨g71.cell (by assumption), g71.cell (by assumption), g71.cell (by assumption), g71.cell (by assumption)⟩))
        (first
          | (go_at_call 14; (with_reducible refine (toState_c A B c d ⟨v, h⟩ _ (hS.grow (by repeat (first | exact Grow.refl _ | assumption | refine Grow.alloc ?_ _ | refine Grow.drew ?_ | refine Grow.drewN ?_ _ | refine Grow.trans ?_ (by assumption) | refine Grow.below ?_ (by assumption) (by first | exact Nat.le_refl _ | omega)))) h1 h2).mono ?_); rintro e w71 ⟨A71, B71, c71, d71, rfl, o71, g71⟩)
          | (go_at_call 18; refine (eqState_c A3 B3 A71 B71 c3 d3 c71 d71 ⟨v, h⟩ ⟨v, h⟩ _ (o3.st.grow (by repeat (first | exact Grow.refl _ | assumption | refine Grow.alloc ?_ _ | refine Grow.drew ?_ | refine Grow.drewN ?_ _ | refine Grow.trans ?_ (by assumption) | refine Grow.below ?_ (by assumption) (by first | exact Nat.le_refl _ | omega)))) (o71.st.grow (by repeat (first | exact Grow.refl _ | assumption | refine Grow.alloc ?_ _ | refine Grow.drew ?_ | refine Grow.drewN ?_ _ | refine Grow.trans ?_ (by assumption) | refine Grow.below ?_ (by assumption) (by first | exact Nat.le_refl _ | omega)))) (by show v.length ≤ _; omega) (by show h.length ≤ _; omega) (by show v.length ≤ _; omega) (by show h.length ≤ _; omega)).mono ?_; rintro e w72 ⟨rfl, g72⟩))
      clear yp0 yp1 yp2 yx0 yx1 yx2
      have q : Grow w5 w72 := (by repeat (first | exact Grow.refl _ | assumption | refine Grow.alloc ?_ _ | refine Grow.drew ?_ | refine Grow.drewN ?_ _ | refine Grow.trans ?_ (by assumption) | refine Grow.below ?_ (by assumption) (by first | exact Nat.le_refl _ | omega)))
      have zw72 := q.le
      replace yp := yp.grow q
      replace yq := yq.grow q
      replace yx := yx.grow q
      replace yy := yy.grow q
      replace hS := hS.grow q
      replace hT := hT.grow q
      replace o3 := o3.grow q
      replace o4 := o4.grow q
      replace G := G.trans q
      clear q g71 g72 o71
      obtain ⟨yq0, yq1, _, _⟩ := yq.facts
      have yq2 := yq.lt
      obtain ⟨yy0, yy1, _, _⟩ := yy.facts
      have yy2 := yy.lt
      go_wp2_with fail
      go_region_held3 (fun W => W.cell? ⟨w.heap.size + 1, 0, none⟩ = some (.slice A9 fl.length c9) ∧ W.cell? ⟨w.heap.size + 1, 1, none⟩ = some (.slice B9 al.length d9) ∧ W.cell? ⟨w4.heap.size, 0, none⟩ = some (.slice A4 fl.length c4) ∧ W.cell? ⟨w4.heap.size, 1, none⟩ = some (.slice B4 al.length d4))
        (first | go_keep | (go_split_ands; exact ⟨g82.cell (by assumption), g82.cell (by assumption), g82.cell (by assumption), g82.cell (by assumption)⟩) | (go_split_ands; exact ⟨g81.cell (by assumption), g81.cell (by assumption), g81.cell (by assumption), g81.cell (by assumption)⟩))
        (first
          | (go_at_call 32; (with_reducible refine (toAssertion_c A9 B9 c9 d9 ⟨fl, al⟩ _ (hT.grow (by repeat (first | exact Grow.refl _ | assumption | refine Grow.alloc ?_ _ | refine Grow.drew ?_ | refine Grow.drewN ?_ _ | refine Grow.trans ?_ (by assumption) | refine Grow.below ?_ (by assumption) (by first | exact Nat.le_refl _ | omega)))) h3 h4).mono ?_); rintro e w81 ⟨A81, B81, c81, d81, rfl, o81, g81⟩)
          | (go_at_call 34; refine (eqAssertion_c A4 B4 A81 B81 c4 d4 c81 d81 ⟨fl, al⟩ ⟨fl, al⟩ _ (o4.st.grow (by repeat (first | exact Grow.refl _ | assumption | refine Grow.alloc ?_ _ | refine Grow.drew ?_ | refine Grow.drewN ?_ _ | refine Grow.trans ?_ (by assumption) | refine Grow.below ?_ (by assumption) (by first | exact Nat.le_refl _ | omega)))) (o81.st.grow (by repeat (first | exact Grow.refl _ | assumption | refine Grow.alloc ?_ _ | refine Grow.drew ?_ | refine Grow.drewN ?_ _ | refine Grow.trans ?_ (by assumption) | refine Grow.below ?_ (by assumption) (by first | exact Nat.le_refl _ | omega)))) (by show fl.length ≤ _; omega) (by show al.length ≤ _; omega) (by show fl.length ≤ _; omega) (by show al.length ≤ _; omega)).mono ?_; rintro e w82 ⟨rfl, g82⟩))
      clear yq0 yq1 yq2 yy0 yy1 yy2
      have q : Grow w72 w82 := (by repeat (first | exact Grow.refl _ | assumption | refine Grow.alloc ?_ _ | refine Grow.drew ?_ | refine Grow.drewN ?_ _ | refine Grow.trans ?_ (by assumption) | refine Grow.below ?_ (by assumption) (by first | exact Nat.le_refl _ | omega)))
      have zw82 := q.le
      replace yp := yp.grow q
      replace yq := yq.grow q
      replace yx := yx.grow q
      replace yy := yy.grow q
      replace hS := hS.grow q
      replace hT := hT.grow q
      replace o3 := o3.grow q
      replace o4 := o4.grow q
      replace G := G.trans q
      clear q g81 g82 o81
      go_wp2_with fail
      go_ret
      exact ⟨rfl, G⟩
    · have hs9 := Lib.hid (show szv2 fl.length al.length (1048576 - v.length - h.length : Int) = -1 by unfold szv2; rw [if_pos (by omega)])
      obtain ⟨k0, k1, _, _⟩ := yq.facts
      go_wp2_with fail
      refine (szAssertion_c A9 B9 fl.length al.length c9 d9 (1048576 - v.length - h.length) _ hn9 hm9 (by omega) (by omega)).mono ?_
      rintro e w1 ⟨rfl, g1⟩
      rw [hs9.out]
      go_wp2_with fail
      go_ret
      exact ⟨rfl, G.trans g1⟩
  · have hs := Lib.hid (show szv2 v.length h.length 1048576 = -1 by unfold szv2; rw [if_pos (by omega)])
    go_enter Try.func7, Try.ntmps7
    go_wp2_with fail
    refine (szState_c A B v.length h.length c d 1048576 _ hn hm (by omega) (by omega)).mono ?_
    rintro e w0 ⟨rfl, g0⟩
    rw [hs.out]
    go_wp2_with fail
    go_ret
    exact ⟨rfl, (by repeat (first | exact Grow.refl _ | assumption | refine Grow.alloc ?_ _ | refine Grow.drew ?_ | refine Grow.drewN ?_ _ | refine Grow.trans ?_ (by assumption) | refine Grow.below ?_ (by assumption) (by first | exact Nat.le_refl _ | omega)))⟩

set_option maxRecDepth 100000 in
theorem lifted (os : Os) (started : os.Started) (H : Type) (enc : TypeId × Value → H) :
    ReturnsInHanded {} Try.checked os 7 .any (Rows.fnExactHoldsSpec.pre6 enc Try.prog Try.f7 Rows.fnExactHoldsRow.domain false) (Rows.fnExactHoldsSpec.post enc Try.prog Try.f7 false true false false) := by
  refine returnsInHanded_of_change (C := Try.checked) own_knob started (by kernel_rfl) Try.func7
    (ChangeSpec.witness6 (enc := enc) (C := Try.checked) false ⟨#[], #[.agg #[.slice none 0 0, .slice none 0 0], .agg #[.slice none 0 0, .slice none 0 0]], []⟩ 8 (by kernel_rfl) (by kernel_rfl) (by kernel_rfl) (by kernel_rfl)) ?_
  intro W base args ds gs before hval0 hW hcnd _
  have hval : ∀ (j : Nat) t v, Try.f7.params[j]? = some t → args[j]? = some v → Value.okWide Try.prog W .any base t v := hval0
  have hW' := hW
  obtain ⟨p, q, hA0, hV, rfl, hfz, hnd⟩ := hW
  have hA : DataW.TrodAll enc Try.prog W 0 (fun _ => true) true Try.f7.params.toList args.toList ds p := hA0
  rw [Try.params7] at hA hval
  obtain ⟨v0, vs0, d0, ds0, p0, q0, hargs, rfl, rfl, h0, r0⟩ := trodAll_cons hA
  obtain ⟨v1, vs1, d1, ds1, p1, q1, rfl, rfl, rfl, h1, r1⟩ := trodAll_cons r0
  obtain ⟨rfl, rfl, rfl⟩ := trodAll_nil r1
  obtain rfl : args = #[v0, v1] := by cases args; simp_all
  obtain ⟨rfl, rfl⟩ := trodVars_none hV
  have k0 := h0
  have lt0 : ∀ x ∈ p0, x.block < W.heap.size := by obtain ⟨m, hm⟩ := k0; exact DataW.trod_lt m _ _ _ hm
  obtain ⟨a0, b0, c0, d0, l0, m0, rfl, w0, y0, hb0, hc0⟩ := open_stateV (hval 0 24 v0 rfl rfl) h0
  have k1 := h1
  have lt1 : ∀ x ∈ p1, x.block < W.heap.size := by obtain ⟨m, hm⟩ := k1; exact DataW.trod_lt m _ _ _ hm
  obtain ⟨a1, b1, c1, d1, l1, m1, rfl, w1, y1, hb1, hc1⟩ := open_asnV (hval 1 48 v1 rfl rfl) h1
  clear hA0 hval0
  refine (walk a0 c0 l0 b0 d0 m0 a1 c1 l1 b1 d1 m1 W w0 y0 hb0 hc0 w1 y1 hb1 hc1).mono fun e W' ⟨he, bel⟩ => ?_
  subst he
  exact ⟨_, rfl, _, _, _, [], _, [], hW', trodAll_mk1 (shut_bool Try.underlying4 _), (trodAll_cons_mk (Below.trod laid_out (by kernel_rfl) (of_decide_eq_true (by kernel_rfl)) k0 bel lt0) (trodAll_cons_mk (Below.trod laid_out (by kernel_rfl) (of_decide_eq_true (by kernel_rfl)) k1 bel lt1) trodAll_mk0)), rfl, bel.frame _, fun h => by cases h⟩

theorem over : Rows.fnExactHoldsRow.holds Try.pinned (OpenSpec.ofChange Rows.fnExactHoldsSpec) :=
  OpenClaim.holds_of_wide 7 Try.f7 rfl rfl rfl rfl rfl rfl rfl ⟨rfl, rfl, rfl, rfl, rfl⟩ rfl rfl rfl rfl rfl (by kernel_rfl) Try.func7 (by kernel_rfl)
    (of_decide_eq_true (by kernel_rfl)) (by unfold Func.isWrapper; first | (rw [if_pos (by decide +kernel)]; kernel_rfl) | (rw [if_neg (by decide +kernel)]; exact ⟨rfl, rfl⟩))
    (fun os started H enc _ => lifted os started H enc)

/-- The statement. -/
theorem proved : Rows.FnExactHoldsSaid := over
#print axioms proved

end Go.Proofs.Ytcipmmieiafpbaa.lawFnExactHolds
