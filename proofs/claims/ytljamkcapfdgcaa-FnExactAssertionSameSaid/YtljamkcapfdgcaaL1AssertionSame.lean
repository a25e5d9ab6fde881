/- FnExactAssertionSame: for all assertions the program's StateSame answers as the reference does and leaves its arguments alone. No conditions. -/
import Derived.Test.YtljamkcapfdgcaaAs3
import Derived.Test.YtljamkcapfdgcaaRowAs
namespace Go.Proofs.Ytljamkcapfdgcaa.lawFnExactAssertionSame
open Go.ChangeShapes Go.WideShapes Go.ChangeAt Go.RowKit Go.Joins Go.Deep
open Go.ChangeMaps (open_string shut_string)
set_option linter.unusedVariables false

set_option maxRecDepth 100000 in
set_option maxHeartbeats 6400000 in
theorem walk (A : Option Addr) (c : Nat) (v : List Pl.Fct) (B : Option Addr) (d : Nat) (h : List Pl.Atm) (A9 : Option Addr) (c9 : Nat) (v9 : List Pl.Fct) (B9 : Option Addr) (d9 : Nat) (h9 : List Pl.Atm) (w : World) (hA : Facts w A v) (hB : Atoms w B h) (hn : v.length ≤ 9223372036854775807) (hm : h.length ≤ 9223372036854775807) (hA9 : Facts w A9 v9) (hB9 : Atoms w B9 h9) (hn9 : v9.length ≤ 9223372036854775807) (hm9 : h9.length ≤ 9223372036854775807) :
    Calls Try.prog 3 #[.agg #[.slice A v.length c, .slice B h.length d], .agg #[.slice A9 v9.length c9, .slice B9 h9.length d9]] w fun e w' => e = .returned (.bool true) ∧ Grow w w' := by
  have hS : Asrs w A B ⟨v, h⟩ := ⟨hA, hB⟩
  have hT : Asrs w A9 B9 ⟨v9, h9⟩ := ⟨hA9, hB9⟩
  have yp0 := (Box2.new w 25 (.slice A v.length c) (.slice B h.length d)).grow (show Grow _ ((w.alloc (.cells #[.slice A v.length c, .slice B h.length d] 25)).alloc (.cells #[.slice A9 v9.length c9, .slice B9 h9.length d9] 25)) from Grow.alloc (Grow.refl _) _)
  have yq0 := Box2.new (w.alloc (.cells #[.slice A v.length c, .slice B h.length d] 25)) 25 (.slice A9 v9.length c9) (.slice B9 h9.length d9)
  simp only [World.size_alloc] at yq0
  have G0 : Grow w ((w.alloc (.cells #[.slice A v.length c, .slice B h.length d] 25)).alloc (.cells #[.slice A9 v9.length c9, .slice B9 h9.length d9] 25)) := (by repeat (first | exact Grow.refl _ | assumption | refine Grow.alloc ?_ _ | refine Grow.drew ?_ | refine Grow.drewN ?_ _ | refine Grow.trans ?_ (by assumption) | refine Grow.below ?_ (by assumption) (by first | exact Nat.le_refl _ | omega)))
  obtain ⟨bs, hbs0⟩ : ∃ b, b = decide ((⟨v, h⟩ : Pl.Asr) = ⟨v9, h9⟩) := ⟨_, rfl⟩
  have hbs := Lib.hid hbs0
  clear hbs0
  by_cases h20 : v.length + h.length ≤ 1048576
  · have hs := Lib.hid (show szv2 v.length h.length 1048576 = 1048576 - v.length - h.length by unfold szv2; rw [if_neg (by omega)])
    have h1 : v.length ≤ 1048576 := by omega
    have h2 : h.length ≤ 1048576 := by omega
    go_enter Try.func3, Try.ntmps3
    go_wp2_with fail
    generalize (w.alloc (.cells #[.slice A v.length c, .slice B h.length d] 25)).alloc (.cells #[.slice A9 v9.length c9, .slice B9 h9.length d9] 25) = wz at *
    have S := hS.grow G0
    have T := hT.grow G0
    have G := G0
    clear hA hB hA9 hB9
    refine (szAssertion_c A B v.length h.length c d 1048576 _ hn hm (by omega) (by omega)).mono ?_
    rintro e w0 ⟨rfl, g0⟩
    have q : Grow wz w0 := (by repeat (first | exact Grow.refl _ | assumption | refine Grow.alloc ?_ _ | refine Grow.drew ?_ | refine Grow.drewN ?_ _ | refine Grow.trans ?_ (by assumption) | refine Grow.below ?_ (by assumption) (by first | exact Nat.le_refl _ | omega)))
    have zw0 := q.le
    replace yp0 := yp0.grow q
    replace yq0 := yq0.grow q
    replace S := S.grow q
    replace T := T.grow q
    replace G := G.trans q
    clear q g0
    rw [hs.out]
    by_cases h21 : v9.length + h9.length ≤ 1048576 - v.length - h.length
    · have hs9 := Lib.hid (show szv2 v9.length h9.length (1048576 - v.length - h.length : Int) = 1048576 - v.length - h.length - v9.length - h9.length by unfold szv2; rw [if_neg (by omega)])
      have h3 : v9.length ≤ 1048576 := by omega
      have h4 : h9.length ≤ 1048576 := by omega
      obtain ⟨yq00, yq01, _, _⟩ := yq0.facts
      have yq02 := yq0.lt
      go_wp2_with fail
      refine (szAssertion_c A9 B9 v9.length h9.length c9 d9 (1048576 - v.length - h.length) _ hn9 hm9 (by omega) (by omega)).mono ?_
      rintro e w1 ⟨rfl, g1⟩
      clear yq00 yq01 yq02
      have q : Grow w0 w1 := (by repeat (first | exact Grow.refl _ | assumption | refine Grow.alloc ?_ _ | refine Grow.drew ?_ | refine Grow.drewN ?_ _ | refine Grow.trans ?_ (by assumption) | refine Grow.below ?_ (by assumption) (by first | exact Nat.le_refl _ | omega)))
      have zw1 := q.le
      replace yp0 := yp0.grow q
      replace yq0 := yq0.grow q
      replace S := S.grow q
      replace T := T.grow q
      replace G := G.trans q
      clear q g1
      rw [hs9.out]
      clear hs hs9
      obtain ⟨yp00, yp01, _, _⟩ := yp0.facts
      have yp02 := yp0.lt
      obtain ⟨yq00, yq01, _, _⟩ := yq0.facts
      have yq02 := yq0.lt
      go_wp2_with fail
      go_region_held3 (fun W => W.cell? ⟨w.heap.size, 0, none⟩ = some (.slice A v.length c) ∧ W.cell? ⟨w.heap.size, 1, none⟩ = some (.slice B h.length d) ∧ W.cell? ⟨w.heap.size + 1, 0, none⟩ = some (.slice A9 v9.length c9) ∧ W.cell? ⟨w.heap.size + 1, 1, none⟩ = some (.slice B9 h9.length d9))
        (first | go_keep | (go_split_ands; exact ⟨g23.cell (by assumption), g23.cell (by assumption), g23.cell (by assumption), g23.cell (by assumption)⟩) | (go_split_ands; exact ⟨g22.cell (by assumption), g22.cell (by assumption), g22.cell (by assumption), g22.cell (by assumption)⟩) | (go_split_ands; exact ⟨g21.cell (by assumption), g21.cell (by assumption), g21.cell (by assumption), g21.cell (by assumption)⟩))
        (first
          | (go_at_call 11; (with_reducible refine (toAssertion_c A B c d ⟨v, h⟩ _ (S.grow (by repeat (first | exact Grow.refl _ | assumption | refine Grow.alloc ?_ _ | refine Grow.drew ?_ | refine Grow.drewN ?_ _ | refine Grow.trans ?_ (by assumption) | refine Grow.below ?_ (by assumption) (by first | exact Nat.le_refl _ | omega)))) h1 h2).mono ?_); rintro e w21 ⟨A21, B21, c21, d21, rfl, o21, g21⟩)
          | (go_at_call 11; (with_reducible refine (toAssertion_c A9 B9 c9 d9 ⟨v9, h9⟩ _ (T.grow (by repeat (first | exact Grow.refl _ | assumption | refine Grow.alloc ?_ _ | refine Grow.drew ?_ | refine Grow.drewN ?_ _ | refine Grow.trans ?_ (by assumption) | refine Grow.below ?_ (by assumption) (by first | exact Nat.le_refl _ | omega)))) h3 h4).mono ?_); rintro e w22 ⟨A22, B22, c22, d22, rfl, o22, g22⟩)
          | (go_at_call 10; refine (sAssertionSame_c A21 B21 A22 B22 c21 d21 c22 d22 ⟨v, h⟩ ⟨v9, h9⟩ _ (o21.st.grow (by repeat (first | exact Grow.refl _ | assumption | refine Grow.alloc ?_ _ | refine Grow.drew ?_ | refine Grow.drewN ?_ _ | refine Grow.trans ?_ (by assumption) | refine Grow.below ?_ (by assumption) (by first | exact Nat.le_refl _ | omega)))) (o22.st.grow (by repeat (first | exact Grow.refl _ | assumption | refine Grow.alloc ?_ _ | refine Grow.drew ?_ | refine Grow.drewN ?_ _ | refine Grow.trans ?_ (by assumption) | refine Grow.below ?_ (by assumption) (by first | exact Nat.le_refl _ | omega)))) (by show v.length ≤ _; omega) (by show h.length ≤ _; omega) (by show v9.length ≤ _; omega) (by show h9.length ≤ _; omega)).mono ?_; rintro e w23 ⟨e23, g23⟩; rw [← hbs.out] at e23; subst e23))
      clear yp00 yp01 yp02 yq00 yq01 yq02
      have q : Grow w1 w23 := (by repeat (first | exact Grow.refl _ | assumption | refine Grow.alloc ?_ _ | refine Grow.drew ?_ | refine Grow.drewN ?_ _ | refine Grow.trans ?_ (by assumption) | refine Grow.below ?_ (by assumption) (by first | exact Nat.le_refl _ | omega)))
      replace yp0 := yp0.grow q
      replace yq0 := yq0.grow q
      replace S := S.grow q
      replace T := T.grow q
      replace G := G.trans q
      clear q g21 g22 g23 o21 o22
      obtain ⟨yp00, yp01, _, _⟩ := yp0.facts
      have yp02 := yp0.lt
      go_wp2_with fail
      refine (toAssertion_c A B c d ⟨v, h⟩ _ (S.grow (by repeat (first | exact Grow.refl _ | assumption | refine Grow.alloc ?_ _ | refine Grow.drew ?_ | refine Grow.drewN ?_ _ | refine Grow.trans ?_ (by assumption) | refine Grow.below ?_ (by assumption) (by first | exact Nat.le_refl _ | omega)))) h1 h2).mono ?_
      rintro e w3 ⟨A3, B3, c3, d3, rfl, o3, g3⟩
      clear yp00 yp01 yp02
      have q : Grow w23 w3 := (by repeat (first | exact Grow.refl _ | assumption | refine Grow.alloc ?_ _ | refine Grow.drew ?_ | refine Grow.drewN ?_ _ | refine Grow.trans ?_ (by assumption) | refine Grow.below ?_ (by assumption) (by first | exact Nat.le_refl _ | omega)))
      have zw3 := q.le
      replace yp0 := yp0.grow q
      replace yq0 := yq0.grow q
      replace S := S.grow q
      replace T := T.grow q
      replace G := G.trans q
      clear q g3
      have X := o3.st
      clear o3
      obtain ⟨yq00, yq01, _, _⟩ := yq0.facts
      have yq02 := yq0.lt
      go_wp2_with fail
      refine (toAssertion_c A9 B9 c9 d9 ⟨v9, h9⟩ _ (T.grow (by repeat (first | exact Grow.refl _ | assumption | refine Grow.alloc ?_ _ | refine Grow.drew ?_ | refine Grow.drewN ?_ _ | refine Grow.trans ?_ (by assumption) | refine Grow.below ?_ (by assumption) (by first | exact Nat.le_refl _ | omega)))) h3 h4).mono ?_
      rintro e w4 ⟨A4, B4, c4, d4, rfl, o4, g4⟩
      clear yq00 yq01 yq02
      have q : Grow w3 w4 := (by repeat (first | exact Grow.refl _ | assumption | refine Grow.alloc ?_ _ | refine Grow.drew ?_ | refine Grow.drewN ?_ _ | refine Grow.trans ?_ (by assumption) | refine Grow.below ?_ (by assumption) (by first | exact Nat.le_refl _ | omega)))
      have yx := (Box2.new w3 31 (.slice A3 v.length c3) (.slice B3 h.length d3)).grow g4
      have zw4 := yx.lt
      replace yp0 := yp0.grow q
      replace yq0 := yq0.grow q
      replace S := S.grow q
      replace T := T.grow q
      replace X := X.grow q
      replace G := G.trans q
      clear q g4
      have Y := o4.st
      clear o4
      obtain ⟨yx0, yx1, _, _⟩ := yx.facts
      have yx2 := yx.lt
      go_wp2_with fail
      refine (AssertionSame_c A3 B3 A4 B4 c3 d3 c4 d4 ⟨v, h⟩ ⟨v9, h9⟩ _ (X.grow (by repeat (first | exact Grow.refl _ | assumption | refine Grow.alloc ?_ _ | refine Grow.drew ?_ | refine Grow.drewN ?_ _ | refine Grow.trans ?_ (by assumption) | refine Grow.below ?_ (by assumption) (by first | exact Nat.le_refl _ | omega)))) (Y.grow (by repeat (first | exact Grow.refl _ | assumption | refine Grow.alloc ?_ _ | refine Grow.drew ?_ | refine Grow.drewN ?_ _ | refine Grow.trans ?_ (by assumption) | refine Grow.below ?_ (by assumption) (by first | exact Nat.le_refl _ | omega)))) (by show v.length ≤ _; omega) (by show h.length ≤ _; omega) (by show v9.length ≤ _; omega) (by show h9.length ≤ _; omega)).mono ?_
      rintro e w5 ⟨e5, g5⟩
      clear yx0 yx1 yx2
      have q : Grow w4 w5 := (by repeat (first | exact Grow.refl _ | assumption | refine Grow.alloc ?_ _ | refine Grow.drew ?_ | refine Grow.drewN ?_ _ | refine Grow.trans ?_ (by assumption) | refine Grow.below ?_ (by assumption) (by first | exact Nat.le_refl _ | omega)))
      have yy := (Box2.new w4 31 (.slice A4 v9.length c4) (.slice B4 h9.length d4)).grow g5
      have zw5 := yy.lt
      replace yp0 := yp0.grow q
      replace yq0 := yq0.grow q
      replace yx := yx.grow q
      replace S := S.grow q
      replace T := T.grow q
      replace X := X.grow q
      replace Y := Y.grow q
      replace G := G.trans q
      clear q g5
      rw [← hbs.out] at e5
      subst e5
      have b1 : (bs != bs) = false := by simp
      go_wp2_with fail
      obtain ⟨yp00, yp01, _, _⟩ := yp0.facts
      have yp02 := yp0.lt
      obtain ⟨yx0, yx1, _, _⟩ := yx.facts
      have yx2 := yx.lt
      go_region_held3 (fun W => W.cell? ⟨w.heap.size, 0, none⟩ = some (.slice A v.length c) ∧ W.cell? ⟨w.heap.size, 1, none⟩ = some (.slice B h.length d) ∧ W.cell? ⟨w3.heap.size, 0, none⟩ = some (.slice A3 v.length c3) ∧ W.cell? ⟨w3.heap.size, 1, none⟩ = some (.slice B3 h.length d3))
        (first | go_keep | (go_split_ands; exact ⟨g32.cell (by assumption), g32.cell (by assumption), g32.cell (by assumption), g32.cell (by assumption)⟩) | (go_split_ands; exact ⟨g31.cell (by assumption), g31.cell (by assumption), g31.cell (by assumption), g31.cell (by assumption)⟩))
        (first
          | (go_at_call 11; (with_reducible refine (toAssertion_c A B c d ⟨v, h⟩ _ (S.grow (by repeat (first | exact Grow.refl _ | assumption | refine Grow.alloc ?_ _ | refine Grow.drew ?_ | refine Grow.drewN ?_ _ | refine Grow.trans ?_ (by assumption) | refine Grow.below ?_ (by assumption) (by first | exact Nat.le_refl _ | omega)))) h1 h2).mono ?_); rintro e w31 ⟨A31, B31, c31, d31, rfl, o31, g31⟩)
          | (go_at_call 13; refine (eqAssertion_c A3 B3 A31 B31 c3 d3 c31 d31 ⟨v, h⟩ ⟨v, h⟩ _ (X.grow (by repeat (first | exact Grow.refl _ | assumption | refine Grow.alloc ?_ _ | refine Grow.drew ?_ | refine Grow.drewN ?_ _ | refine Grow.trans ?_ (by assumption) | refine Grow.below ?_ (by assumption) (by first | exact Nat.le_refl _ | omega)))) (o31.st.grow (by repeat (first | exact Grow.refl _ | assumption | refine Grow.alloc ?_ _ | refine Grow.drew ?_ | refine Grow.drewN ?_ _ | refine Grow.trans ?_ (by assumption) | refine Grow.below ?_ (by assumption) (by first | exact Nat.le_refl _ | omega)))) (by show v.length ≤ _; omega) (by show h.length ≤ _; omega) (by show v.length ≤ _; omega) (by show h.length ≤ _; omega)).mono ?_; rintro e w32 ⟨rfl, g32⟩))
      clear yp00 yp01 yp02 yx0 yx1 yx2
      have q : Grow w5 w32 := (by repeat (first | exact Grow.refl _ | assumption | refine Grow.alloc ?_ _ | refine Grow.drew ?_ | refine Grow.drewN ?_ _ | refine Grow.trans ?_ (by assumption) | refine Grow.below ?_ (by assumption) (by first | exact Nat.le_refl _ | omega)))
      replace yp0 := yp0.grow q
      replace yq0 := yq0.grow q
      replace yx := yx.grow q
      replace yy := yy.grow q
      replace S := S.grow q
      replace T := T.grow q
      replace X := X.grow q
      replace Y := Y.grow q
      replace G := G.trans q
      clear q g31 g32 o31
      go_wp2_with fail
      obtain ⟨yq00, yq01, _, _⟩ := yq0.facts
      have yq02 := yq0.lt
      obtain ⟨yy0, yy1, _, _⟩ := yy.facts
      have yy2 := yy.lt
      go_region_held3 (fun W => W.cell? ⟨w.heap.size + 1, 0, none⟩ = some (.slice A9 v9.length c9) ∧ W.cell? ⟨w.heap.size + 1, 1, none⟩ = some (.slice B9 h9.length d9) ∧ W.cell? ⟨w4.heap.size, 0, none⟩ = some (.slice A4 v9.length c4) ∧ W.cell? ⟨w4.heap.size, 1, none⟩ = some (.slice B4 h9.length d4))
        (first | go_keep | (go_split_ands; exact ⟨g42.cell (by assumption), g42.cell (by assumption), g42.cell (by assumption), g42.cell (by assumption)⟩) | (go_split_ands; exact ⟨g41.cell (by assumption), g41.cell (by assumption), g41.cell (by assumption), g41.cell (by assumption)⟩))
        (first
          | (go_at_call 11; (with_reducible refine (toAssertion_c A9 B9 c9 d9 ⟨v9, h9⟩ _ (T.grow (by repeat (first | exact Grow.refl _ | assumption | refine Grow.alloc ?_ _ | refine Grow.drew ?_ | refine Grow.drewN ?_ _ | refine Grow.trans ?_ (by assumption) | refine Grow.below ?_ (by assumption) (by first | exact Nat.le_refl _ | omega)))) h3 h4).mono ?_); rintro e w41 ⟨A41, B41, c41, d41, rfl, o41, g41⟩)
          | (go_at_call 13; refine (eqAssertion_c A4 B4 A41 B41 c4 d4 c41 d41 ⟨v9, h9⟩ ⟨v9, h9⟩ _ (Y.grow (by repeat (first | exact Grow.refl _ | assumption | refine Grow.alloc ?_ _ | refine Grow.drew ?_ | refine Grow.drewN ?_ _ | refine Grow.trans ?_ (by assumption) | refine Grow.below ?_ (by assumption) (by first | exact Nat.le_refl _ | omega)))) (o41.st.grow (by repeat (first | exact Grow.refl _ | assumption | refine Grow.alloc ?_ _ | refine Grow.drew ?_ | refine Grow.drewN ?_ _ | refine Grow.trans ?_ (by assumption) | refine Grow.below ?_ (by assumption) (by first | exact Nat.le_refl _ | omega)))) (by show v9.length ≤ _; omega) (by show h9.length ≤ _; omega) (by show v9.length ≤ _; omega) (by show h9.length ≤ _; omega)).mono ?_; rintro e w42 ⟨rfl, g42⟩))
      have GE : Grow w w42 := G.trans (by repeat (first | exact Grow.refl _ | assumption | refine Grow.alloc ?_ _ | refine Grow.drew ?_ | refine Grow.drewN ?_ _ | refine Grow.trans ?_ (by assumption) | refine Grow.below ?_ (by assumption) (by first | exact Nat.le_refl _ | omega)))
      go_wp2_with fail
      go_ret
      exact ⟨rfl, GE⟩
    · have hs9 := Lib.hid (show szv2 v9.length h9.length (1048576 - v.length - h.length : Int) = -1 by unfold szv2; rw [if_pos (by omega)])
      obtain ⟨k0, k1, _, _⟩ := yq0.facts
      go_wp2_with fail
      refine (szAssertion_c A9 B9 v9.length h9.length c9 d9 (1048576 - v.length - h.length) _ hn9 hm9 (by omega) (by omega)).mono ?_
      rintro e w1 ⟨rfl, g1⟩
      rw [hs9.out]
      go_wp2_with fail
      go_ret
      exact ⟨rfl, G.trans g1⟩
  · have hs := Lib.hid (show szv2 v.length h.length 1048576 = -1 by unfold szv2; rw [if_pos (by omega)])
    go_enter Try.func3, Try.ntmps3
    go_wp2_with fail
    refine (szAssertion_c A B v.length h.length c d 1048576 _ hn hm (by omega) (by omega)).mono ?_
    rintro e w0 ⟨rfl, g0⟩
    rw [hs.out]
    go_wp2_with fail
    go_ret
    exact ⟨rfl, (by repeat (first | exact Grow.refl _ | assumption | refine Grow.alloc ?_ _ | refine Grow.drew ?_ | refine Grow.drewN ?_ _ | refine Grow.trans ?_ (by assumption) | refine Grow.below ?_ (by assumption) (by first | exact Nat.le_refl _ | omega)))⟩

set_option maxRecDepth 100000 in
theorem lifted (os : Os) (started : os.Started) (H : Type) (enc : TypeId × Value → H) :
    ReturnsInHanded {} Try.checked os 3 .any (Rows.fnExactAssertionSameSpec.pre6 enc Try.prog Try.f3 Rows.fnExactAssertionSameRow.domain false) (Rows.fnExactAssertionSameSpec.post enc Try.prog Try.f3 false true false false) := by
  refine returnsInHanded_of_change (C := Try.checked) own_knob started (by kernel_rfl) Try.func3
    (ChangeSpec.witness6 (enc := enc) (C := Try.checked) false ⟨#[], #[.agg #[.slice none 0 0, .slice none 0 0], .agg #[.slice none 0 0, .slice none 0 0]], []⟩ 8 (by kernel_rfl) (by kernel_rfl) (by kernel_rfl) (by kernel_rfl)) ?_
  intro W base args ds gs before hval0 hW hcnd _
  have hval : ∀ (j : Nat) t v, Try.f3.params[j]? = some t → args[j]? = some v → Value.okWide Try.prog W .any base t v := hval0
  have hW' := hW
  obtain ⟨p, q, hA0, hV, rfl, hfz, hnd⟩ := hW
  have hA : DataW.TrodAll enc Try.prog W 0 (fun _ => true) true Try.f3.params.toList args.toList ds p := hA0
  rw [Try.params3] at hA hval
  obtain ⟨v0, vs0, d0, ds0, p0, q0, hargs, rfl, rfl, h0, r0⟩ := trodAll_cons hA
  obtain ⟨v1, vs1, d1, ds1, p1, q1, rfl, rfl, rfl, h1, r1⟩ := trodAll_cons r0
  obtain ⟨rfl, rfl, rfl⟩ := trodAll_nil r1
  obtain rfl : args = #[v0, v1] := by cases args; simp_all
  obtain ⟨rfl, rfl⟩ := trodVars_none hV
  have k0 := h0
  have lt0 : ∀ x ∈ p0, x.block < W.heap.size := by obtain ⟨m, hm⟩ := k0; exact DataW.trod_lt m _ _ _ hm
  obtain ⟨a0, b0, c0, d0, l0, m0, rfl, w0, y0, hb0, hc0⟩ := open_asnV (hval 0 25 v0 rfl rfl) h0
  have k1 := h1
  have lt1 : ∀ x ∈ p1, x.block < W.heap.size := by obtain ⟨m, hm⟩ := k1; exact DataW.trod_lt m _ _ _ hm
  obtain ⟨a1, b1, c1, d1, l1, m1, rfl, w1, y1, hb1, hc1⟩ := open_asnV (hval 1 25 v1 rfl rfl) h1
  clear hA0 hval0
  refine (walk a0 c0 l0 b0 d0 m0 a1 c1 l1 b1 d1 m1 W w0 y0 hb0 hc0 w1 y1 hb1 hc1).mono fun e W' ⟨he, bel⟩ => ?_
  subst he
  exact ⟨_, rfl, _, _, _, [], _, [], hW', trodAll_mk1 (shut_bool Try.underlying4 _), (trodAll_cons_mk (Below.trod laid_out (by kernel_rfl) (of_decide_eq_true (by kernel_rfl)) k0 bel lt0) (trodAll_cons_mk (Below.trod laid_out (by kernel_rfl) (of_decide_eq_true (by kernel_rfl)) k1 bel lt1) trodAll_mk0)), rfl, bel.frame _, fun h => by cases h⟩

theorem over : Rows.fnExactAssertionSameRow.holds Try.pinned (OpenSpec.ofChange Rows.fnExactAssertionSameSpec) :=
  OpenClaim.holds_of_wide 3 Try.f3 rfl rfl rfl rfl rfl rfl rfl ⟨rfl, rfl, rfl, rfl, rfl⟩ rfl rfl rfl rfl rfl (by kernel_rfl) Try.func3 (by kernel_rfl)
    (of_decide_eq_true (by kernel_rfl)) (by unfold Func.isWrapper; first | (rw [if_pos (by decide +kernel)]; kernel_rfl) | (rw [if_neg (by decide +kernel)]; exact ⟨rfl, rfl⟩))
    (fun os started H enc _ => lifted os started H enc)

/-- The statement. -/
theorem proved : Rows.FnExactAssertionSameSaid := over
#print axioms proved

end Go.Proofs.Ytljamkcapfdgcaa.lawFnExactAssertionSame
