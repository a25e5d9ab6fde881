/- FnSubstCommute: substitutions of two terms by a third one commute. No conditions. -/
import Derived.Test.YtlcijjbeikoppaaRowAid
import Derived.Test.YtlcijjbeikoppaaDrawD
import Derived.Test.YtlcijjbeikoppaaAs9
import Derived.Test.YtlcijjbeikoppaaPlainSub
namespace Go.Proofs.Ytlcijjbeikoppaa.lawFnSubstCommute
open Go.ChangeShapes Go.WideShapes Go.ChangeAt Go.RowKit Go.Joins Go.Deep
open Go.ChangeMaps (open_string shut_string)
set_option linter.unusedVariables false
set_option linter.unusedSimpArgs false

set_option maxRecDepth 100000 in
set_option maxHeartbeats 6400000 in
theorem walk (A : Option Addr) (c n : Nat) (B : Option Addr) (d m : Nat) (w : World) (hA : Bytes w A n) (hn : n ≤ 9223372036854775807) (hnc : n ≤ c) (hB : Bytes w B m) (hm : m ≤ 9223372036854775807) (hmd : m ≤ d) :
    Calls Try.prog 4 #[.slice A n c, .slice B m d] w fun e w' => e = .returned (.bool true) ∧ Grow w w' := by
  by_cases hn20 : (1048576 : Int) < (n : Int)
  · go_enter Try.func4, Try.ntmps4
    go_wp2
    go_ret
    exact ⟨rfl, (by repeat (first | exact Grow.refl _ | assumption | refine Grow.alloc ?_ _ | refine Grow.drew ?_ | refine Grow.drewN ?_ _ | refine Grow.trans ?_ (by assumption) | refine Grow.below ?_ (by assumption) (by first | exact Nat.le_refl _ | omega)))⟩
  by_cases hm20 : (1048576 : Int) < (m : Int)
  · go_enter Try.func4, Try.ntmps4
    go_wp2
    go_ret
    exact ⟨rfl, (by repeat (first | exact Grow.refl _ | assumption | refine Grow.alloc ?_ _ | refine Grow.drew ?_ | refine Grow.drewN ?_ _ | refine Grow.trans ?_ (by assumption) | refine Grow.below ?_ (by assumption) (by first | exact Nat.le_refl _ | omega)))⟩
  have hy1 : 1 ≤ 1 + (m : Int) % 8 := by omega
  have hy2 : 1 + (m : Int) % 8 ≤ 8 := by omega
  go_enter Try.func4, Try.ntmps4
  go_wp2_with fail
  refine (DrawSubstAssertion_c A n c _ hA hn hnc).mono ?_
  rintro e w1 ⟨A1, B1, c1, d1, v, h, x, t, rfl, o1, ⟨hv8, hh9⟩, g1⟩
  have q : Grow w w1 := (by repeat (first | exact Grow.refl _ | assumption | refine Grow.alloc ?_ _ | refine Grow.drew ?_ | refine Grow.drewN ?_ _ | refine Grow.trans ?_ (by assumption) | refine Grow.below ?_ (by assumption) (by first | exact Nat.le_refl _ | omega)))
  have zw1 := q.le
  have G := q
  clear q g1
  have S := o1.st
  clear o1
  obtain ⟨r, hr⟩ : ∃ r, r = Pl.sbR ⟨v, h⟩ x t := ⟨_, rfl⟩
  have hl : r.1.f.length ≤ 100 ∧ r.1.a.length ≤ 100 := by rw [hr]; exact Pl.sbR_lenN _ _ _ (by show v.length ≤ 100; omega) (by show h.length ≤ 100; omega)
  have L := Pl.sub_law hr hy1 hy2
  obtain ⟨⟨rv, rh⟩, rb⟩ := r
  have hl1 : rv.length ≤ 100 := hl.1
  have hl2 : rh.length ≤ 100 := hl.2
  have CI := Lib.hid (show ∀ W, Asrs W A1 B1 ⟨v, h⟩ → Calls Try.prog 10 #[asval A1 B1 c1 d1 ⟨v, h⟩, .int .i64 x, .int .i64 t] W (RAs W (⟨rv, rh⟩, rb)) from fun W k => by rw [hr]; exact SubstAssertion_c A1 B1 c1 d1 ⟨v, h⟩ x t W k (by show v.length ≤ _; omega) (by show h.length ≤ _; omega))
  have CS := Lib.hid (show ∀ W, Asrs W A1 B1 ⟨v, h⟩ → Calls Try.prog 8 #[asval A1 B1 c1 d1 ⟨v, h⟩, .int .i64 x, .int .i64 t] W (RAs W (⟨rv, rh⟩, rb)) from fun W k => by rw [hr]; exact sSubstAssertion_c A1 B1 c1 d1 ⟨v, h⟩ x t W k (by show v.length ≤ _; omega) (by show h.length ≤ _; omega))
  have CE := Lib.hid (show ∀ (A B A' B' : Option Addr) (c d c' d' : Nat) (s : Pl.Asr) W, Asrs W A B s → Asrs W A' B' s → s.f.length ≤ 100 → s.a.length ≤ 100 → Calls Try.prog 15 #[asval A B c d s, asval A' B' c' d' s] W fun e w' => e = .returned (.bool true) ∧ Grow W w' from fun A B A' B' c d c' d' s W k k' n m => by
    have := AssertionSame_c A B A' B' c d c' d' s s W k k' (by omega) (by omega) (by omega) (by omega)
    rw [decide_eq_true rfl] at this; exact this)
  clear hr hl
  go_wp2_with fail
  refine (CI.out _ (S.grow (by repeat (first | exact Grow.refl _ | assumption | refine Grow.alloc ?_ _ | refine Grow.drew ?_ | refine Grow.drewN ?_ _ | refine Grow.trans ?_ (by assumption) | refine Grow.below ?_ (by assumption) (by first | exact Nat.le_refl _ | omega))))).mono ?_
  rintro e w2 ⟨A2, B2, c2, d2, rfl, o2, g2⟩
  have q : Grow w1 w2 := (by repeat (first | exact Grow.refl _ | assumption | refine Grow.alloc ?_ _ | refine Grow.drew ?_ | refine Grow.drewN ?_ _ | refine Grow.trans ?_ (by assumption) | refine Grow.below ?_ (by assumption) (by first | exact Nat.le_refl _ | omega)))
  have ys := (Box2.new w1 30 (.slice A1 v.length c1) (.slice B1 h.length d1)).grow g2
  have zw2 := ys.lt
  replace S := S.grow q
  replace G := G.trans q
  clear q g2
  generalize 1 + (m : Int) % 8 = yv at *
  have LH := Lib.hid L
  clear L
  have X := o2.st
  clear o2
  obtain ⟨ys0, ys1, _, _⟩ := ys.facts
  have ys2 := ys.lt
  go_wp2_with fail
  refine (CS.out _ (S.grow (by repeat (first | exact Grow.refl _ | assumption | refine Grow.alloc ?_ _ | refine Grow.drew ?_ | refine Grow.drewN ?_ _ | refine Grow.trans ?_ (by assumption) | refine Grow.below ?_ (by assumption) (by first | exact Nat.le_refl _ | omega))))).mono ?_
  rintro e w3 ⟨A3, B3, c3, d3, rfl, o3, g3⟩
  clear ys0 ys1 ys2
  have q : Grow w2 w3 := (by repeat (first | exact Grow.refl _ | assumption | refine Grow.alloc ?_ _ | refine Grow.drew ?_ | refine Grow.drewN ?_ _ | refine Grow.trans ?_ (by assumption) | refine Grow.below ?_ (by assumption) (by first | exact Nat.le_refl _ | omega)))
  have yx := (Box2.new w2 30 (.slice A2 rv.length c2) (.slice B2 rh.length d2)).grow g3
  have zw3 := yx.lt
  replace ys := ys.grow q
  replace S := S.grow q
  replace X := X.grow q
  replace G := G.trans q
  clear q g3
  have Z := o3.st
  clear o3
  obtain ⟨yx0, yx1, _, _⟩ := yx.facts
  have yx2 := yx.lt
  go_wp2_with fail
  refine (CE.out A2 B2 A3 B3 c2 d2 c3 d3 ⟨rv, rh⟩ _ (X.grow (by repeat (first | exact Grow.refl _ | assumption | refine Grow.alloc ?_ _ | refine Grow.drew ?_ | refine Grow.drewN ?_ _ | refine Grow.trans ?_ (by assumption) | refine Grow.below ?_ (by assumption) (by first | exact Nat.le_refl _ | omega)))) (Z.grow (by repeat (first | exact Grow.refl _ | assumption | refine Grow.alloc ?_ _ | refine Grow.drew ?_ | refine Grow.drewN ?_ _ | refine Grow.trans ?_ (by assumption) | refine Grow.below ?_ (by assumption) (by first | exact Nat.le_refl _ | omega)))) hl1 hl2).mono ?_
  rintro e w4 ⟨rfl, g4⟩
  clear yx0 yx1 yx2
  have q : Grow w3 w4 := (by repeat (first | exact Grow.refl _ | assumption | refine Grow.alloc ?_ _ | refine Grow.drew ?_ | refine Grow.drewN ?_ _ | refine Grow.trans ?_ (by assumption) | refine Grow.below ?_ (by assumption) (by first | exact Nat.le_refl _ | omega)))
  have yz := (Box2.new w3 30 (.slice A3 rv.length c3) (.slice B3 rh.length d3)).grow g4
  have zw4 := yz.lt
  replace ys := ys.grow q
  replace yx := yx.grow q
  replace S := S.grow q
  replace X := X.grow q
  replace Z := Z.grow q
  replace G := G.trans q
  clear q g4
  cases rb with
  | false =>
    obtain ⟨yx0, yx1, _, _⟩ := yx.facts
    have yx2 := yx.lt
    obtain ⟨yz0, yz1, _, _⟩ := yz.facts
    have yz2 := yz.lt
    go_wp2_with fail
    refine (CE.out A2 B2 A3 B3 c2 d2 c3 d3 ⟨rv, rh⟩ _ (X.grow (by repeat (first | exact Grow.refl _ | assumption | refine Grow.alloc ?_ _ | refine Grow.drew ?_ | refine Grow.drewN ?_ _ | refine Grow.trans ?_ (by assumption) | refine Grow.below ?_ (by assumption) (by first | exact Nat.le_refl _ | omega)))) (Z.grow (by repeat (first | exact Grow.refl _ | assumption | refine Grow.alloc ?_ _ | refine Grow.drew ?_ | refine Grow.drewN ?_ _ | refine Grow.trans ?_ (by assumption) | refine Grow.below ?_ (by assumption) (by first | exact Nat.le_refl _ | omega)))) hl1 hl2).mono ?_
    rintro e w5 ⟨rfl, g5⟩
    clear yx0 yx1 yx2 yz0 yz1 yz2
    have q : Grow w4 w5 := (by repeat (first | exact Grow.refl _ | assumption | refine Grow.alloc ?_ _ | refine Grow.drew ?_ | refine Grow.drewN ?_ _ | refine Grow.trans ?_ (by assumption) | refine Grow.below ?_ (by assumption) (by first | exact Nat.le_refl _ | omega)))
    have zw5 := q.le
    replace ys := ys.grow q
    replace yx := yx.grow q
    replace yz := yz.grow q
    replace S := S.grow q
    replace X := X.grow q
    replace Z := Z.grow q
    replace G := G.trans q
    clear q g5
    go_wp2_with fail
    go_ret
    exact ⟨rfl, G⟩
  | true =>
    by_cases hc : x = yv
    · have hbxyv : (x == yv) = true := by simp [hc]
      clear hc
      obtain ⟨yx0, yx1, _, _⟩ := yx.facts
      have yx2 := yx.lt
      obtain ⟨yz0, yz1, _, _⟩ := yz.facts
      have yz2 := yz.lt
      go_wp2_with fail
      refine (CE.out A2 B2 A3 B3 c2 d2 c3 d3 ⟨rv, rh⟩ _ (X.grow (by repeat (first | exact Grow.refl _ | assumption | refine Grow.alloc ?_ _ | refine Grow.drew ?_ | refine Grow.drewN ?_ _ | refine Grow.trans ?_ (by assumption) | refine Grow.below ?_ (by assumption) (by first | exact Nat.le_refl _ | omega)))) (Z.grow (by repeat (first | exact Grow.refl _ | assumption | refine Grow.alloc ?_ _ | refine Grow.drew ?_ | refine Grow.drewN ?_ _ | refine Grow.trans ?_ (by assumption) | refine Grow.below ?_ (by assumption) (by first | exact Nat.le_refl _ | omega)))) hl1 hl2).mono ?_
      rintro e w6 ⟨rfl, g6⟩
      clear yx0 yx1 yx2 yz0 yz1 yz2
      have q : Grow w4 w6 := (by repeat (first | exact Grow.refl _ | assumption | refine Grow.alloc ?_ _ | refine Grow.drew ?_ | refine Grow.drewN ?_ _ | refine Grow.trans ?_ (by assumption) | refine Grow.below ?_ (by assumption) (by first | exact Nat.le_refl _ | omega)))
      have zw6 := q.le
      replace ys := ys.grow q
      replace yx := yx.grow q
      replace yz := yz.grow q
      replace S := S.grow q
      replace X := X.grow q
      replace Z := Z.grow q
      replace G := G.trans q
      clear q g6
      go_wp2_with fail
      go_ret
      exact ⟨rfl, G⟩
    have nxyv := hc
    have hbxyv : (x == yv) = false := by simp [hc]
    clear hc
    by_cases hc : t = yv
    · have hbtyv : (t == yv) = true := by simp [hc]
      clear hc
      obtain ⟨yx0, yx1, _, _⟩ := yx.facts
      have yx2 := yx.lt
      obtain ⟨yz0, yz1, _, _⟩ := yz.facts
      have yz2 := yz.lt
      go_wp2_with fail
      refine (CE.out A2 B2 A3 B3 c2 d2 c3 d3 ⟨rv, rh⟩ _ (X.grow (by repeat (first | exact Grow.refl _ | assumption | refine Grow.alloc ?_ _ | refine Grow.drew ?_ | refine Grow.drewN ?_ _ | refine Grow.trans ?_ (by assumption) | refine Grow.below ?_ (by assumption) (by first | exact Nat.le_refl _ | omega)))) (Z.grow (by repeat (first | exact Grow.refl _ | assumption | refine Grow.alloc ?_ _ | refine Grow.drew ?_ | refine Grow.drewN ?_ _ | refine Grow.trans ?_ (by assumption) | refine Grow.below ?_ (by assumption) (by first | exact Nat.le_refl _ | omega)))) hl1 hl2).mono ?_
      rintro e w6 ⟨rfl, g6⟩
      clear yx0 yx1 yx2 yz0 yz1 yz2
      have q : Grow w4 w6 := (by repeat (first | exact Grow.refl _ | assumption | refine Grow.alloc ?_ _ | refine Grow.drew ?_ | refine Grow.drewN ?_ _ | refine Grow.trans ?_ (by assumption) | refine Grow.below ?_ (by assumption) (by first | exact Nat.le_refl _ | omega)))
      have zw6 := q.le
      replace ys := ys.grow q
      replace yx := yx.grow q
      replace yz := yz.grow q
      replace S := S.grow q
      replace X := X.grow q
      replace Z := Z.grow q
      replace G := G.trans q
      clear q g6
      go_wp2_with fail
      go_ret
      exact ⟨rfl, G⟩
    have ntyv := hc
    have hbtyv : (t == yv) = false := by simp [hc]
    clear hc
    by_cases hc : t = x
    · have hbtx : (t == x) = true := by simp [hc]
      clear hc
      obtain ⟨yx0, yx1, _, _⟩ := yx.facts
      have yx2 := yx.lt
      obtain ⟨yz0, yz1, _, _⟩ := yz.facts
      have yz2 := yz.lt
      go_wp2_with fail
      refine (CE.out A2 B2 A3 B3 c2 d2 c3 d3 ⟨rv, rh⟩ _ (X.grow (by repeat (first | exact Grow.refl _ | assumption | refine Grow.alloc ?_ _ | refine Grow.drew ?_ | refine Grow.drewN ?_ _ | refine Grow.trans ?_ (by assumption) | refine Grow.below ?_ (by assumption) (by first | exact Nat.le_refl _ | omega)))) (Z.grow (by repeat (first | exact Grow.refl _ | assumption | refine Grow.alloc ?_ _ | refine Grow.drew ?_ | refine Grow.drewN ?_ _ | refine Grow.trans ?_ (by assumption) | refine Grow.below ?_ (by assumption) (by first | exact Nat.le_refl _ | omega)))) hl1 hl2).mono ?_
      rintro e w6 ⟨rfl, g6⟩
      clear yx0 yx1 yx2 yz0 yz1 yz2
      have q : Grow w4 w6 := (by repeat (first | exact Grow.refl _ | assumption | refine Grow.alloc ?_ _ | refine Grow.drew ?_ | refine Grow.drewN ?_ _ | refine Grow.trans ?_ (by assumption) | refine Grow.below ?_ (by assumption) (by first | exact Nat.le_refl _ | omega)))
      have zw6 := q.le
      replace ys := ys.grow q
      replace yx := yx.grow q
      replace yz := yz.grow q
      replace S := S.grow q
      replace X := X.grow q
      replace Z := Z.grow q
      replace G := G.trans q
      clear q g6
      go_wp2_with fail
      go_ret
      exact ⟨rfl, G⟩
    have ntx := hc
    have hbtx : (t == x) = false := by simp [hc]
    clear hc
    obtain ⟨⟨uv, uh⟩, ⟨zv, zh⟩, e1, e2, e3, l1, l2, l3, l4⟩ := LH.out rfl nxyv ntyv ntx
    replace l3 : zv.length ≤ 100 := l3
    replace l4 : zh.length ≤ 100 := l4
    clear nxyv ntyv ntx
    have C1 := Lib.hid (show ∀ W, Asrs W A2 B2 ⟨rv, rh⟩ → Calls Try.prog 10 #[asval A2 B2 c2 d2 ⟨rv, rh⟩, .int .i64 yv, .int .i64 t] W (RAs W (⟨uv, uh⟩, true)) from fun W k => by rw [← e1]; exact SubstAssertion_c A2 B2 c2 d2 ⟨rv, rh⟩ yv t W k (by show rv.length ≤ _; omega) (by show rh.length ≤ _; omega))
    have C2 := Lib.hid (show ∀ W, Asrs W A1 B1 ⟨v, h⟩ → Calls Try.prog 10 #[asval A1 B1 c1 d1 ⟨v, h⟩, .int .i64 yv, .int .i64 t] W (RAs W (⟨zv, zh⟩, true)) from fun W k => by rw [← e2]; exact SubstAssertion_c A1 B1 c1 d1 ⟨v, h⟩ yv t W k (by show v.length ≤ _; omega) (by show h.length ≤ _; omega))
    have C3 := Lib.hid (show ∀ (A B : Option Addr) (c d : Nat) W, Asrs W A B ⟨zv, zh⟩ → Calls Try.prog 10 #[asval A B c d ⟨zv, zh⟩, .int .i64 x, .int .i64 t] W (RAs W (⟨uv, uh⟩, true)) from fun A B c d W k => by rw [← e3]; exact SubstAssertion_c A B c d ⟨zv, zh⟩ x t W k (by show zv.length ≤ _; omega) (by show zh.length ≤ _; omega))
    clear e1 e2 e3
    obtain ⟨yx0, yx1, _, _⟩ := yx.facts
    have yx2 := yx.lt
    go_wp2_with fail
    refine (C1.out _ (X.grow (by repeat (first | exact Grow.refl _ | assumption | refine Grow.alloc ?_ _ | refine Grow.drew ?_ | refine Grow.drewN ?_ _ | refine Grow.trans ?_ (by assumption) | refine Grow.below ?_ (by assumption) (by first | exact Nat.le_refl _ | omega))))).mono ?_
    rintro e w5 ⟨A5, B5, c5, d5, rfl, o5, g5⟩
    clear yx0 yx1 yx2
    have q : Grow w4 w5 := (by repeat (first | exact Grow.refl _ | assumption | refine Grow.alloc ?_ _ | refine Grow.drew ?_ | refine Grow.drewN ?_ _ | refine Grow.trans ?_ (by assumption) | refine Grow.below ?_ (by assumption) (by first | exact Nat.le_refl _ | omega)))
    have zw5 := q.le
    replace ys := ys.grow q
    replace yx := yx.grow q
    replace yz := yz.grow q
    replace S := S.grow q
    replace X := X.grow q
    replace Z := Z.grow q
    replace G := G.trans q
    clear q g5
    have U := o5.st
    clear o5
    obtain ⟨ys0, ys1, _, _⟩ := ys.facts
    have ys2 := ys.lt
    go_wp2_with fail
    refine (C2.out _ (S.grow (by repeat (first | exact Grow.refl _ | assumption | refine Grow.alloc ?_ _ | refine Grow.drew ?_ | refine Grow.drewN ?_ _ | refine Grow.trans ?_ (by assumption) | refine Grow.below ?_ (by assumption) (by first | exact Nat.le_refl _ | omega))))).mono ?_
    rintro e w6 ⟨A6, B6, c6, d6, rfl, o6, g6⟩
    clear ys0 ys1 ys2
    have q : Grow w5 w6 := (by repeat (first | exact Grow.refl _ | assumption | refine Grow.alloc ?_ _ | refine Grow.drew ?_ | refine Grow.drewN ?_ _ | refine Grow.trans ?_ (by assumption) | refine Grow.below ?_ (by assumption) (by first | exact Nat.le_refl _ | omega)))
    have yu := (Box2.new w5 30 (.slice A5 uv.length c5) (.slice B5 uh.length d5)).grow g6
    have zw6 := yu.lt
    replace ys := ys.grow q
    replace yx := yx.grow q
    replace yz := yz.grow q
    replace S := S.grow q
    replace X := X.grow q
    replace Z := Z.grow q
    replace U := U.grow q
    replace G := G.trans q
    clear q g6
    have D := o6.st
    clear o6
    have yd0 := Box2.new w6 30 (.slice A6 zv.length c6) (.slice B6 zh.length d6)
    obtain ⟨yd0a, yd0b, _, _⟩ := yd0.facts
    go_wp2_with fail
    refine (C3.out A6 B6 c6 d6 _ (D.grow (by repeat (first | exact Grow.refl _ | assumption | refine Grow.alloc ?_ _ | refine Grow.drew ?_ | refine Grow.drewN ?_ _ | refine Grow.trans ?_ (by assumption) | refine Grow.below ?_ (by assumption) (by first | exact Nat.le_refl _ | omega))))).mono ?_
    rintro e w7 ⟨A7, B7, c7, d7, rfl, o7, g7⟩
    have q : Grow w6 w7 := (by repeat (first | exact Grow.refl _ | assumption | refine Grow.alloc ?_ _ | refine Grow.drew ?_ | refine Grow.drewN ?_ _ | refine Grow.trans ?_ (by assumption) | refine Grow.below ?_ (by assumption) (by first | exact Nat.le_refl _ | omega)))
    have yd := (Box2.new w6 30 (.slice A6 zv.length c6) (.slice B6 zh.length d6)).grow g7
    have zw7 := yd.lt
    replace ys := ys.grow q
    replace yx := yx.grow q
    replace yz := yz.grow q
    replace yu := yu.grow q
    replace S := S.grow q
    replace X := X.grow q
    replace Z := Z.grow q
    replace U := U.grow q
    replace D := D.grow q
    replace G := G.trans q
    clear q g7
    clear yd0 yd0a yd0b
    have V := o7.st
    clear o7
    obtain ⟨yu0, yu1, _, _⟩ := yu.facts
    have yu2 := yu.lt
    go_wp2_with fail
    refine (CE.out A5 B5 A7 B7 c5 d5 c7 d7 ⟨uv, uh⟩ _ (U.grow (by repeat (first | exact Grow.refl _ | assumption | refine Grow.alloc ?_ _ | refine Grow.drew ?_ | refine Grow.drewN ?_ _ | refine Grow.trans ?_ (by assumption) | refine Grow.below ?_ (by assumption) (by first | exact Nat.le_refl _ | omega)))) (V.grow (by repeat (first | exact Grow.refl _ | assumption | refine Grow.alloc ?_ _ | refine Grow.drew ?_ | refine Grow.drewN ?_ _ | refine Grow.trans ?_ (by assumption) | refine Grow.below ?_ (by assumption) (by first | exact Nat.le_refl _ | omega)))) l1 l2).mono ?_
    rintro e w8 ⟨rfl, g8⟩
    clear yu0 yu1 yu2
    have q : Grow w7 w8 := (by repeat (first | exact Grow.refl _ | assumption | refine Grow.alloc ?_ _ | refine Grow.drew ?_ | refine Grow.drewN ?_ _ | refine Grow.trans ?_ (by assumption) | refine Grow.below ?_ (by assumption) (by first | exact Nat.le_refl _ | omega)))
    have yw := (Box2.new w7 30 (.slice A7 uv.length c7) (.slice B7 uh.length d7)).grow g8
    have zw8 := yw.lt
    replace ys := ys.grow q
    replace yx := yx.grow q
    replace yz := yz.grow q
    replace yu := yu.grow q
    replace yd := yd.grow q
    replace S := S.grow q
    replace X := X.grow q
    replace Z := Z.grow q
    replace U := U.grow q
    replace D := D.grow q
    replace V := V.grow q
    replace G := G.trans q
    clear q g8
    go_wp2_with fail
    go_ret
    exact ⟨rfl, G⟩

set_option maxRecDepth 100000 in
theorem lifted (os : Os) (started : os.Started) (H : Type) (enc : TypeId × Value → H) :
    ReturnsInHanded {} Try.checked os 4 .any (Rows.fnSubstCommuteSpec.pre6 enc Try.prog Try.f4 Rows.fnSubstCommuteRow.domain false) (Rows.fnSubstCommuteSpec.post enc Try.prog Try.f4 false true false false) := by
  refine returnsInHanded_of_change (C := Try.checked) own_knob started (by kernel_rfl) Try.func4
    (ChangeSpec.witness6 (enc := enc) (C := Try.checked) false ⟨#[], #[.slice none 0 0, .slice none 0 0], []⟩ 8 (by kernel_rfl) (by kernel_rfl) (by kernel_rfl) (by kernel_rfl)) ?_
  intro W base args ds gs before hval0 hW hcnd _
  have hval : ∀ (j : Nat) t v, Try.f4.params[j]? = some t → args[j]? = some v → Value.okWide Try.prog W .any base t v := hval0
  have hW' := hW
  obtain ⟨p, q, hA0, hV, rfl, hfz, hnd⟩ := hW
  have hA : DataW.TrodAll enc Try.prog W 0 (fun _ => true) true Try.f4.params.toList args.toList ds p := hA0
  rw [Try.params4] at hA hval
  obtain ⟨v0, vs0, d0, ds0, p0, q0, hargs, rfl, rfl, h0, r0⟩ := trodAll_cons hA
  obtain ⟨v1, vs1, d1, ds1, p1, q1, rfl, rfl, rfl, h1, r1⟩ := trodAll_cons r0
  obtain ⟨rfl, rfl, rfl⟩ := trodAll_nil r1
  obtain rfl : args = #[v0, v1] := by cases args; simp_all
  obtain ⟨rfl, rfl⟩ := trodVars_none hV
  have k0 := h0
  have lt0 : ∀ x ∈ p0, x.block < W.heap.size := by obtain ⟨m, hm⟩ := k0; exact DataW.trod_lt m _ _ _ hm
  obtain ⟨a0, len0, cap0, rfl⟩ := okWide_slice Try.underlying37 (hval 0 37 v0 rfl rfl)
  obtain ⟨hb0, w0, hc0⟩ : len0 ≤ 9223372036854775807 ∧ Bytes W a0 len0 ∧ len0 ≤ cap0 := by
    obtain ⟨fuel, hf⟩ := h0
    exact open_bytesL (by simpa [Value.cells] using hf)
  have k1 := h1
  have lt1 : ∀ x ∈ p1, x.block < W.heap.size := by obtain ⟨m, hm⟩ := k1; exact DataW.trod_lt m _ _ _ hm
  obtain ⟨a1, len1, cap1, rfl⟩ := okWide_slice Try.underlying37 (hval 1 37 v1 rfl rfl)
  obtain ⟨hb1, w1, hc1⟩ : len1 ≤ 9223372036854775807 ∧ Bytes W a1 len1 ∧ len1 ≤ cap1 := by
    obtain ⟨fuel, hf⟩ := h1
    exact open_bytesL (by simpa [Value.cells] using hf)
  clear hA0 hval0
  refine (walk a0 cap0 len0 a1 cap1 len1 W w0 hb0 hc0 w1 hb1 hc1).mono fun e W' ⟨he, bel⟩ => ?_
  subst he
  exact ⟨_, rfl, _, _, _, [], _, [], hW', trodAll_mk1 (shut_bool Try.underlying4 _), (trodAll_cons_mk (Below.trod laid_out (by kernel_rfl) (of_decide_eq_true (by kernel_rfl)) k0 bel lt0) (trodAll_cons_mk (Below.trod laid_out (by kernel_rfl) (of_decide_eq_true (by kernel_rfl)) k1 bel lt1) trodAll_mk0)), rfl, bel.frame _, fun h => by cases h⟩

theorem over : Rows.fnSubstCommuteRow.holds Try.pinned (OpenSpec.ofChange Rows.fnSubstCommuteSpec) :=
  OpenClaim.holds_of_wide 4 Try.f4 rfl rfl rfl rfl rfl rfl rfl ⟨rfl, rfl, rfl, rfl, rfl⟩ rfl rfl rfl rfl rfl (by kernel_rfl) Try.func4 (by kernel_rfl)
    (of_decide_eq_true (by kernel_rfl)) (by unfold Func.isWrapper; first | (rw [if_pos (by decide +kernel)]; kernel_rfl) | (rw [if_neg (by decide +kernel)]; exact ⟨rfl, rfl⟩))
    (fun os started H enc _ => lifted os started H enc)

/-- The statement. -/
theorem proved : Rows.FnSubstCommuteSaid := over
#print axioms proved

end Go.Proofs.Ytlcijjbeikoppaa.lawFnSubstCommute
