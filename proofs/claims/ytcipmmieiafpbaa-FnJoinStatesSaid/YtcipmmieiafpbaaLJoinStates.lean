/- FnJoinStates: the two parts of a state join to the state, in either order. No conditions. -/
import Derived.Test.YtcipmmieiafpbaaSt9
import Derived.Test.YtcipmmieiafpbaaDrawS2
import Derived.Test.YtcipmmieiafpbaaRowAid
import Derived.Test.YtcipmmieiafpbaaPlainJoin
import Derived.Test.YtcipmmieiafpbaaJn
import Derived.Test.YtcipmmieiafpbaaDrawK
namespace Go.Proofs.Ytcipmmieiafpbaa.lawFnJoinStates
open Go.ChangeShapes Go.WideShapes Go.ChangeAt Go.RowKit Go.Joins Go.Deep
open Go.ChangeMaps (open_string shut_string)
set_option linter.unusedVariables false
set_option linter.unusedSimpArgs false

set_option maxRecDepth 100000 in
set_option maxHeartbeats 6400000 in
theorem walk (A : Option Addr) (c n : Nat) (w : World) (hA : Bytes w A n) (hn : n ≤ 9223372036854775807) (hnc : n ≤ c) :
    Calls Try.prog 8 #[.slice A n c] w fun e w' => e = .returned (.bool true) ∧ Grow w w' := by
  by_cases hn20 : (1048576 : Int) < (n : Int)
  · go_enter Try.func8, Try.ntmps8
    go_wp2
    go_ret
    exact ⟨rfl, (by repeat (first | exact Grow.refl _ | assumption | refine Grow.alloc ?_ _ | refine Grow.drew ?_ | refine Grow.drewN ?_ _ | refine Grow.trans ?_ (by assumption) | refine Grow.below ?_ (by assumption) (by first | exact Nat.le_refl _ | omega)))⟩
  go_enter Try.func8, Try.ntmps8
  go_wp2_with fail
  refine (DrawKeepCells_c A n c _ hA hn hnc).mono ?_
  rintro e w1 ⟨A1, B1, c1, d1, v, h, A9, c9, l, rfl, S, ⟨hv8, hh9⟩, I, hll, g1⟩
  have q : Grow w w1 := (by repeat (first | exact Grow.refl _ | assumption | refine Grow.alloc ?_ _ | refine Grow.drew ?_ | refine Grow.drewN ?_ _ | refine Grow.trans ?_ (by assumption) | refine Grow.below ?_ (by assumption) (by first | exact Nat.le_refl _ | omega)))
  have zw1 := q.le
  have G := q
  clear q g1
  obtain ⟨kv, kh, dv, dh, b, hk, hd, hj, l1, l2, l3, l4⟩ : ∃ kv kh dv dh b, Pl.keepR ⟨v, h⟩ l = (⟨kv, kh⟩, b) ∧ Pl.dropR ⟨v, h⟩ l = (⟨dv, dh⟩, b) ∧ (b = true → Pl.joinS ⟨kv, kh⟩ ⟨dv, dh⟩ = (⟨v, h⟩, true) ∧ Pl.joinS ⟨dv, dh⟩ ⟨kv, kh⟩ = (⟨v, h⟩, true) ∧ (Pl.usedC ⟨kv, kh⟩).length = l.length) ∧ kv.length ≤ 9 ∧ kh.length ≤ 9 ∧ dv.length ≤ 9 ∧ dh.length ≤ 9 := by
    have b1 := Pl.keepR_len ⟨v, h⟩ l (n := 9) (by show v.length ≤ 9; omega) (by show h.length ≤ 9; omega)
    have b2 := Pl.dropR_len ⟨v, h⟩ l (n := 9) (by show v.length ≤ 9; omega) (by show h.length ≤ 9; omega)
    cases hc : Pl.chosenP ⟨v, h⟩ l with
    | none =>
      have e1 := Pl.keepR_none hc
      have e2 := Pl.dropR_none hc
      rw [e1] at b1
      rw [e2] at b2
      exact ⟨_, _, _, _, false, e1, e2, fun h => by (cases h), b1.1, b1.2, b2.1, b2.2⟩
    | some p =>
      have e1 := Pl.keepR_some hc
      have e2 := Pl.dropR_some hc
      rw [e1] at b1
      rw [e2] at b2
      exact ⟨_, _, _, _, true, e1, e2, fun _ => Pl.parts_join hc, b1.1, b1.2, b2.1, b2.2⟩
  have CK := Lib.hid (show ∀ W, Sts W A1 B1 ⟨v, h⟩ → Ints W A9 l → Calls Try.prog 24 #[sval A1 B1 c1 d1 ⟨v, h⟩, .slice A9 l.length c9] W (RSt W (⟨kv, kh⟩, b)) from fun W k k9 => by rw [← hk]; exact KeepCells_c A1 B1 A9 c1 d1 c9 ⟨v, h⟩ l W k k9 (by show v.length ≤ _; omega) (by show h.length ≤ _; omega) (by omega))
  have CT := Lib.hid (show ∀ W, Sts W A1 B1 ⟨v, h⟩ → Ints W A9 l → Calls Try.prog 22 #[sval A1 B1 c1 d1 ⟨v, h⟩, .slice A9 l.length c9] W (RSt W (⟨kv, kh⟩, b)) from fun W k k9 => by rw [← hk]; exact sKeepCells_c A1 B1 A9 c1 d1 c9 ⟨v, h⟩ l W k k9 (by show v.length ≤ _; omega) (by show h.length ≤ _; omega) (by omega))
  have CD := Lib.hid (show ∀ W, Sts W A1 B1 ⟨v, h⟩ → Ints W A9 l → Calls Try.prog 27 #[sval A1 B1 c1 d1 ⟨v, h⟩, .slice A9 l.length c9] W (RSt W (⟨dv, dh⟩, b)) from fun W k k9 => by rw [← hd]; exact DropCells_c A1 B1 A9 c1 d1 c9 ⟨v, h⟩ l W k k9 (by show v.length ≤ _; omega) (by show h.length ≤ _; omega) (by omega))
  have CE := Lib.hid (show ∀ (A B A' B' : Option Addr) (c d c' d' : Nat) (s : Pl.St) W, Sts W A B s → Sts W A' B' s → s.v.length ≤ 9 → s.h.length ≤ 9 → Calls Try.prog 36 #[sval A B c d s, sval A' B' c' d' s] W fun e w' => e = .returned (.bool true) ∧ Grow W w' from fun A B A' B' c d c' d' s W k k' n m => by
    have := StateSame_c A B A' B' c d c' d' s s W k k' (by omega) (by omega) (by omega) (by omega)
    rw [decide_eq_true rfl] at this; exact this)
  clear hk hd
  cases b with
  | true =>
    obtain ⟨j1, j2, j3⟩ := hj rfl
    clear hj
    have CJ := Lib.hid (show ∀ (A B A' B' : Option Addr) (c d c' d' : Nat) W, Sts W A B ⟨kv, kh⟩ → Sts W A' B' ⟨dv, dh⟩ → Calls Try.prog 29 #[sval A B c d ⟨kv, kh⟩, sval A' B' c' d' ⟨dv, dh⟩] W (RSt W (⟨v, h⟩, true)) from fun A B A' B' c d c' d' W k k' => by rw [← j1]; exact JoinStates_c A B A' B' c d c' d' _ _ W k k' (by show kv.length ≤ _; omega) (by show kh.length ≤ _; omega) (by show dv.length ≤ _; omega) (by show dh.length ≤ _; omega))
    have CI := Lib.hid (show ∀ (A B A' B' : Option Addr) (c d c' d' : Nat) W, Sts W A B ⟨dv, dh⟩ → Sts W A' B' ⟨kv, kh⟩ → Calls Try.prog 29 #[sval A B c d ⟨dv, dh⟩, sval A' B' c' d' ⟨kv, kh⟩] W (RSt W (⟨v, h⟩, true)) from fun A B A' B' c d c' d' W k k' => by rw [← j2]; exact JoinStates_c A B A' B' c d c' d' _ _ W k k' (by show dv.length ≤ _; omega) (by show dh.length ≤ _; omega) (by show kv.length ≤ _; omega) (by show kh.length ≤ _; omega))
    obtain ⟨us, hus⟩ : ∃ us, us = Pl.usedC ⟨kv, kh⟩ := ⟨_, rfl⟩
    rw [← hus] at j3
    have CU := Lib.hid (show ∀ W, ∀ (A B : Option Addr) (c d : Nat), Sts W A B ⟨kv, kh⟩ → Calls Try.prog 37 #[sval A B c d ⟨kv, kh⟩] W (ROut W us) from fun W A B c d k => by rw [hus]; exact UsedCells_c A B c d ⟨kv, kh⟩ W k (by show kv.length ≤ _; omega) (by show kh.length ≤ _; omega))
    have J3 := Lib.hid (show ((us.length : Int) == (l.length : Int)) = true by rw [j3]; exact beq_self_eq_true _)
    clear hus j1 j2 j3
    go_wp2_with fail
    refine (CK.out _ (S.grow (by repeat (first | exact Grow.refl _ | assumption | refine Grow.alloc ?_ _ | refine Grow.drew ?_ | refine Grow.drewN ?_ _ | refine Grow.trans ?_ (by assumption) | refine Grow.below ?_ (by assumption) (by first | exact Nat.le_refl _ | omega)))) (I.grow (by repeat (first | exact Grow.refl _ | assumption | refine Grow.alloc ?_ _ | refine Grow.drew ?_ | refine Grow.drewN ?_ _ | refine Grow.trans ?_ (by assumption) | refine Grow.below ?_ (by assumption) (by first | exact Nat.le_refl _ | omega))))).mono ?_
    rintro e w2 ⟨A2, B2, c2, d2, rfl, o2, g2⟩
    have q : Grow w1 w2 := (by repeat (first | exact Grow.refl _ | assumption | refine Grow.alloc ?_ _ | refine Grow.drew ?_ | refine Grow.drewN ?_ _ | refine Grow.trans ?_ (by assumption) | refine Grow.below ?_ (by assumption) (by first | exact Nat.le_refl _ | omega)))
    have ys := (Box2.new w1 30 (.slice A1 v.length c1) (.slice B1 h.length d1)).grow g2
    have zw2 := ys.lt
    replace S := S.grow q
    replace I := I.grow q
    replace G := G.trans q
    clear q g2
    have K := o2.st
    clear o2
    obtain ⟨ys0, ys1, _, _⟩ := ys.facts
    have ys2 := ys.lt
    go_wp2_with fail
    refine (CT.out _ (S.grow (by repeat (first | exact Grow.refl _ | assumption | refine Grow.alloc ?_ _ | refine Grow.drew ?_ | refine Grow.drewN ?_ _ | refine Grow.trans ?_ (by assumption) | refine Grow.below ?_ (by assumption) (by first | exact Nat.le_refl _ | omega)))) (I.grow (by repeat (first | exact Grow.refl _ | assumption | refine Grow.alloc ?_ _ | refine Grow.drew ?_ | refine Grow.drewN ?_ _ | refine Grow.trans ?_ (by assumption) | refine Grow.below ?_ (by assumption) (by first | exact Nat.le_refl _ | omega))))).mono ?_
    rintro e w3 ⟨A3, B3, c3, d3, rfl, o3, g3⟩
    clear ys0 ys1 ys2
    have q : Grow w2 w3 := (by repeat (first | exact Grow.refl _ | assumption | refine Grow.alloc ?_ _ | refine Grow.drew ?_ | refine Grow.drewN ?_ _ | refine Grow.trans ?_ (by assumption) | refine Grow.below ?_ (by assumption) (by first | exact Nat.le_refl _ | omega)))
    have yk := (Box2.new w2 30 (.slice A2 kv.length c2) (.slice B2 kh.length d2)).grow g3
    have zw3 := yk.lt
    replace ys := ys.grow q
    replace S := S.grow q
    replace I := I.grow q
    replace K := K.grow q
    replace G := G.trans q
    clear q g3
    have T := o3.st
    clear o3
    obtain ⟨ys0, ys1, _, _⟩ := ys.facts
    have ys2 := ys.lt
    go_wp2_with fail
    refine (CD.out _ (S.grow (by repeat (first | exact Grow.refl _ | assumption | refine Grow.alloc ?_ _ | refine Grow.drew ?_ | refine Grow.drewN ?_ _ | refine Grow.trans ?_ (by assumption) | refine Grow.below ?_ (by assumption) (by first | exact Nat.le_refl _ | omega)))) (I.grow (by repeat (first | exact Grow.refl _ | assumption | refine Grow.alloc ?_ _ | refine Grow.drew ?_ | refine Grow.drewN ?_ _ | refine Grow.trans ?_ (by assumption) | refine Grow.below ?_ (by assumption) (by first | exact Nat.le_refl _ | omega))))).mono ?_
    rintro e w4 ⟨A4, B4, c4, d4, rfl, o4, g4⟩
    clear ys0 ys1 ys2
    have q : Grow w3 w4 := (by repeat (first | exact Grow.refl _ | assumption | refine Grow.alloc ?_ _ | refine Grow.drew ?_ | refine Grow.drewN ?_ _ | refine Grow.trans ?_ (by assumption) | refine Grow.below ?_ (by assumption) (by first | exact Nat.le_refl _ | omega)))
    have yt := (Box2.new w3 30 (.slice A3 kv.length c3) (.slice B3 kh.length d3)).grow g4
    have zw4 := yt.lt
    replace ys := ys.grow q
    replace yk := yk.grow q
    replace S := S.grow q
    replace I := I.grow q
    replace K := K.grow q
    replace T := T.grow q
    replace G := G.trans q
    clear q g4
    have D := o4.st
    clear o4
    obtain ⟨yk0, yk1, _, _⟩ := yk.facts
    have yk2 := yk.lt
    obtain ⟨yt0, yt1, _, _⟩ := yt.facts
    have yt2 := yt.lt
    go_wp2_with fail
    refine (CE.out A2 B2 A3 B3 c2 d2 c3 d3 ⟨kv, kh⟩ _ (K.grow (by repeat (first | exact Grow.refl _ | assumption | refine Grow.alloc ?_ _ | refine Grow.drew ?_ | refine Grow.drewN ?_ _ | refine Grow.trans ?_ (by assumption) | refine Grow.below ?_ (by assumption) (by first | exact Nat.le_refl _ | omega)))) (T.grow (by repeat (first | exact Grow.refl _ | assumption | refine Grow.alloc ?_ _ | refine Grow.drew ?_ | refine Grow.drewN ?_ _ | refine Grow.trans ?_ (by assumption) | refine Grow.below ?_ (by assumption) (by first | exact Nat.le_refl _ | omega)))) l1 l2).mono ?_
    rintro e w5 ⟨rfl, g5⟩
    clear yk0 yk1 yk2 yt0 yt1 yt2
    have q : Grow w4 w5 := (by repeat (first | exact Grow.refl _ | assumption | refine Grow.alloc ?_ _ | refine Grow.drew ?_ | refine Grow.drewN ?_ _ | refine Grow.trans ?_ (by assumption) | refine Grow.below ?_ (by assumption) (by first | exact Nat.le_refl _ | omega)))
    have yd := (Box2.new w4 30 (.slice A4 dv.length c4) (.slice B4 dh.length d4)).grow g5
    have zw5 := yd.lt
    replace ys := ys.grow q
    replace yk := yk.grow q
    replace yt := yt.grow q
    replace S := S.grow q
    replace I := I.grow q
    replace K := K.grow q
    replace T := T.grow q
    replace D := D.grow q
    replace G := G.trans q
    clear q g5
    obtain ⟨yk0, yk1, _, _⟩ := yk.facts
    have yk2 := yk.lt
    obtain ⟨yd0, yd1, _, _⟩ := yd.facts
    have yd2 := yd.lt
    go_wp2_with fail
    refine (CJ.out A2 B2 A4 B4 c2 d2 c4 d4 _ (K.grow (by repeat (first | exact Grow.refl _ | assumption | refine Grow.alloc ?_ _ | refine Grow.drew ?_ | refine Grow.drewN ?_ _ | refine Grow.trans ?_ (by assumption) | refine Grow.below ?_ (by assumption) (by first | exact Nat.le_refl _ | omega)))) (D.grow (by repeat (first | exact Grow.refl _ | assumption | refine Grow.alloc ?_ _ | refine Grow.drew ?_ | refine Grow.drewN ?_ _ | refine Grow.trans ?_ (by assumption) | refine Grow.below ?_ (by assumption) (by first | exact Nat.le_refl _ | omega))))).mono ?_
    rintro e w6 ⟨A6, B6, c6, d6, rfl, o6, g6⟩
    clear yk0 yk1 yk2 yd0 yd1 yd2
    have q : Grow w5 w6 := (by repeat (first | exact Grow.refl _ | assumption | refine Grow.alloc ?_ _ | refine Grow.drew ?_ | refine Grow.drewN ?_ _ | refine Grow.trans ?_ (by assumption) | refine Grow.below ?_ (by assumption) (by first | exact Nat.le_refl _ | omega)))
    have zw6 := q.le
    replace ys := ys.grow q
    replace yk := yk.grow q
    replace yt := yt.grow q
    replace yd := yd.grow q
    replace S := S.grow q
    replace I := I.grow q
    replace K := K.grow q
    replace T := T.grow q
    replace D := D.grow q
    replace G := G.trans q
    clear q g6
    have X := o6.st
    clear o6
    obtain ⟨yk0, yk1, _, _⟩ := yk.facts
    have yk2 := yk.lt
    obtain ⟨yd0, yd1, _, _⟩ := yd.facts
    have yd2 := yd.lt
    go_wp2_with fail
    refine (CI.out A4 B4 A2 B2 c4 d4 c2 d2 _ (D.grow (by repeat (first | exact Grow.refl _ | assumption | refine Grow.alloc ?_ _ | refine Grow.drew ?_ | refine Grow.drewN ?_ _ | refine Grow.trans ?_ (by assumption) | refine Grow.below ?_ (by assumption) (by first | exact Nat.le_refl _ | omega)))) (K.grow (by repeat (first | exact Grow.refl _ | assumption | refine Grow.alloc ?_ _ | refine Grow.drew ?_ | refine Grow.drewN ?_ _ | refine Grow.trans ?_ (by assumption) | refine Grow.below ?_ (by assumption) (by first | exact Nat.le_refl _ | omega))))).mono ?_
    rintro e w7 ⟨A7, B7, c7, d7, rfl, o7, g7⟩
    clear yk0 yk1 yk2 yd0 yd1 yd2
    have q : Grow w6 w7 := (by repeat (first | exact Grow.refl _ | assumption | refine Grow.alloc ?_ _ | refine Grow.drew ?_ | refine Grow.drewN ?_ _ | refine Grow.trans ?_ (by assumption) | refine Grow.below ?_ (by assumption) (by first | exact Nat.le_refl _ | omega)))
    have yx := (Box2.new w6 30 (.slice A6 v.length c6) (.slice B6 h.length d6)).grow g7
    have zw7 := yx.lt
    replace ys := ys.grow q
    replace yk := yk.grow q
    replace yt := yt.grow q
    replace yd := yd.grow q
    replace S := S.grow q
    replace I := I.grow q
    replace K := K.grow q
    replace T := T.grow q
    replace D := D.grow q
    replace X := X.grow q
    replace G := G.trans q
    clear q g7
    have Y := o7.st
    clear o7
    obtain ⟨yx0, yx1, _, _⟩ := yx.facts
    have yx2 := yx.lt
    obtain ⟨ys0, ys1, _, _⟩ := ys.facts
    have ys2 := ys.lt
    go_wp2_with fail
    refine (CE.out A6 B6 A1 B1 c6 d6 c1 d1 ⟨v, h⟩ _ (X.grow (by repeat (first | exact Grow.refl _ | assumption | refine Grow.alloc ?_ _ | refine Grow.drew ?_ | refine Grow.drewN ?_ _ | refine Grow.trans ?_ (by assumption) | refine Grow.below ?_ (by assumption) (by first | exact Nat.le_refl _ | omega)))) (S.grow (by repeat (first | exact Grow.refl _ | assumption | refine Grow.alloc ?_ _ | refine Grow.drew ?_ | refine Grow.drewN ?_ _ | refine Grow.trans ?_ (by assumption) | refine Grow.below ?_ (by assumption) (by first | exact Nat.le_refl _ | omega)))) (by show v.length ≤ 9; omega) hh9).mono ?_
    rintro e w8 ⟨rfl, g8⟩
    clear yx0 yx1 yx2 ys0 ys1 ys2
    have q : Grow w7 w8 := (by repeat (first | exact Grow.refl _ | assumption | refine Grow.alloc ?_ _ | refine Grow.drew ?_ | refine Grow.drewN ?_ _ | refine Grow.trans ?_ (by assumption) | refine Grow.below ?_ (by assumption) (by first | exact Nat.le_refl _ | omega)))
    have yy := (Box2.new w7 30 (.slice A7 v.length c7) (.slice B7 h.length d7)).grow g8
    have zw8 := yy.lt
    replace ys := ys.grow q
    replace yk := yk.grow q
    replace yt := yt.grow q
    replace yd := yd.grow q
    replace yx := yx.grow q
    replace S := S.grow q
    replace I := I.grow q
    replace K := K.grow q
    replace T := T.grow q
    replace D := D.grow q
    replace X := X.grow q
    replace Y := Y.grow q
    replace G := G.trans q
    clear q g8
    obtain ⟨yy0, yy1, _, _⟩ := yy.facts
    have yy2 := yy.lt
    obtain ⟨ys0, ys1, _, _⟩ := ys.facts
    have ys2 := ys.lt
    go_wp2_with fail
    refine (CE.out A7 B7 A1 B1 c7 d7 c1 d1 ⟨v, h⟩ _ (Y.grow (by repeat (first | exact Grow.refl _ | assumption | refine Grow.alloc ?_ _ | refine Grow.drew ?_ | refine Grow.drewN ?_ _ | refine Grow.trans ?_ (by assumption) | refine Grow.below ?_ (by assumption) (by first | exact Nat.le_refl _ | omega)))) (S.grow (by repeat (first | exact Grow.refl _ | assumption | refine Grow.alloc ?_ _ | refine Grow.drew ?_ | refine Grow.drewN ?_ _ | refine Grow.trans ?_ (by assumption) | refine Grow.below ?_ (by assumption) (by first | exact Nat.le_refl _ | omega)))) (by show v.length ≤ 9; omega) hh9).mono ?_
    rintro e w9 ⟨rfl, g9⟩
    clear yy0 yy1 yy2 ys0 ys1 ys2
    have q : Grow w8 w9 := (by repeat (first | exact Grow.refl _ | assumption | refine Grow.alloc ?_ _ | refine Grow.drew ?_ | refine Grow.drewN ?_ _ | refine Grow.trans ?_ (by assumption) | refine Grow.below ?_ (by assumption) (by first | exact Nat.le_refl _ | omega)))
    have zw9 := q.le
    replace ys := ys.grow q
    replace yk := yk.grow q
    replace yt := yt.grow q
    replace yd := yd.grow q
    replace yx := yx.grow q
    replace yy := yy.grow q
    replace S := S.grow q
    replace I := I.grow q
    replace K := K.grow q
    replace T := T.grow q
    replace D := D.grow q
    replace X := X.grow q
    replace Y := Y.grow q
    replace G := G.trans q
    clear q g9
    obtain ⟨yk0, yk1, _, _⟩ := yk.facts
    have yk2 := yk.lt
    go_wp2_with fail
    refine (CU.out _ A2 B2 c2 d2 (K.grow (by repeat (first | exact Grow.refl _ | assumption | refine Grow.alloc ?_ _ | refine Grow.drew ?_ | refine Grow.drewN ?_ _ | refine Grow.trans ?_ (by assumption) | refine Grow.below ?_ (by assumption) (by first | exact Nat.le_refl _ | omega))))).mono ?_
    rintro e w10 ⟨A10, c10, rfl, o10, g10⟩
    clear yk0 yk1 yk2
    have q : Grow w9 w10 := (by repeat (first | exact Grow.refl _ | assumption | refine Grow.alloc ?_ _ | refine Grow.drew ?_ | refine Grow.drewN ?_ _ | refine Grow.trans ?_ (by assumption) | refine Grow.below ?_ (by assumption) (by first | exact Nat.le_refl _ | omega)))
    have zw10 := q.le
    replace ys := ys.grow q
    replace yk := yk.grow q
    replace yt := yt.grow q
    replace yd := yd.grow q
    replace yx := yx.grow q
    replace yy := yy.grow q
    replace S := S.grow q
    replace I := I.grow q
    replace K := K.grow q
    replace T := T.grow q
    replace D := D.grow q
    replace X := X.grow q
    replace Y := Y.grow q
    replace G := G.trans q
    clear q g10
    have j3 := J3.out
    go_wp2_with fail
    go_ret
    exact ⟨by rw [← j3]; rfl, G⟩
  | false =>
    clear hj
    go_wp2_with fail
    refine (CK.out _ (S.grow (by repeat (first | exact Grow.refl _ | assumption | refine Grow.alloc ?_ _ | refine Grow.drew ?_ | refine Grow.drewN ?_ _ | refine Grow.trans ?_ (by assumption) | refine Grow.below ?_ (by assumption) (by first | exact Nat.le_refl _ | omega)))) (I.grow (by repeat (first | exact Grow.refl _ | assumption | refine Grow.alloc ?_ _ | refine Grow.drew ?_ | refine Grow.drewN ?_ _ | refine Grow.trans ?_ (by assumption) | refine Grow.below ?_ (by assumption) (by first | exact Nat.le_refl _ | omega))))).mono ?_
    rintro e w2 ⟨A2, B2, c2, d2, rfl, o2, g2⟩
    have q : Grow w1 w2 := (by repeat (first | exact Grow.refl _ | assumption | refine Grow.alloc ?_ _ | refine Grow.drew ?_ | refine Grow.drewN ?_ _ | refine Grow.trans ?_ (by assumption) | refine Grow.below ?_ (by assumption) (by first | exact Nat.le_refl _ | omega)))
    have ys := (Box2.new w1 30 (.slice A1 v.length c1) (.slice B1 h.length d1)).grow g2
    have zw2 := ys.lt
    replace S := S.grow q
    replace I := I.grow q
    replace G := G.trans q
    clear q g2
    have K := o2.st
    clear o2
    obtain ⟨ys0, ys1, _, _⟩ := ys.facts
    have ys2 := ys.lt
    go_wp2_with fail
    refine (CT.out _ (S.grow (by repeat (first | exact Grow.refl _ | assumption | refine Grow.alloc ?_ _ | refine Grow.drew ?_ | refine Grow.drewN ?_ _ | refine Grow.trans ?_ (by assumption) | refine Grow.below ?_ (by assumption) (by first | exact Nat.le_refl _ | omega)))) (I.grow (by repeat (first | exact Grow.refl _ | assumption | refine Grow.alloc ?_ _ | refine Grow.drew ?_ | refine Grow.drewN ?_ _ | refine Grow.trans ?_ (by assumption) | refine Grow.below ?_ (by assumption) (by first | exact Nat.le_refl _ | omega))))).mono ?_
    rintro e w3 ⟨A3, B3, c3, d3, rfl, o3, g3⟩
    clear ys0 ys1 ys2
    have q : Grow w2 w3 := (by repeat (first | exact Grow.refl _ | assumption | refine Grow.alloc ?_ _ | refine Grow.drew ?_ | refine Grow.drewN ?_ _ | refine Grow.trans ?_ (by assumption) | refine Grow.below ?_ (by assumption) (by first | exact Nat.le_refl _ | omega)))
    have yk := (Box2.new w2 30 (.slice A2 kv.length c2) (.slice B2 kh.length d2)).grow g3
    have zw3 := yk.lt
    replace ys := ys.grow q
    replace S := S.grow q
    replace I := I.grow q
    replace K := K.grow q
    replace G := G.trans q
    clear q g3
    have T := o3.st
    clear o3
    obtain ⟨ys0, ys1, _, _⟩ := ys.facts
    have ys2 := ys.lt
    go_wp2_with fail
    refine (CD.out _ (S.grow (by repeat (first | exact Grow.refl _ | assumption | refine Grow.alloc ?_ _ | refine Grow.drew ?_ | refine Grow.drewN ?_ _ | refine Grow.trans ?_ (by assumption) | refine Grow.below ?_ (by assumption) (by first | exact Nat.le_refl _ | omega)))) (I.grow (by repeat (first | exact Grow.refl _ | assumption | refine Grow.alloc ?_ _ | refine Grow.drew ?_ | refine Grow.drewN ?_ _ | refine Grow.trans ?_ (by assumption) | refine Grow.below ?_ (by assumption) (by first | exact Nat.le_refl _ | omega))))).mono ?_
    rintro e w4 ⟨A4, B4, c4, d4, rfl, o4, g4⟩
    clear ys0 ys1 ys2
    have q : Grow w3 w4 := (by repeat (first | exact Grow.refl _ | assumption | refine Grow.alloc ?_ _ | refine Grow.drew ?_ | refine Grow.drewN ?_ _ | refine Grow.trans ?_ (by assumption) | refine Grow.below ?_ (by assumption) (by first | exact Nat.le_refl _ | omega)))
    have yt := (Box2.new w3 30 (.slice A3 kv.length c3) (.slice B3 kh.length d3)).grow g4
    have zw4 := yt.lt
    replace ys := ys.grow q
    replace yk := yk.grow q
    replace S := S.grow q
    replace I := I.grow q
    replace K := K.grow q
    replace T := T.grow q
    replace G := G.trans q
    clear q g4
    have D := o4.st
    clear o4
    obtain ⟨yk0, yk1, _, _⟩ := yk.facts
    have yk2 := yk.lt
    obtain ⟨yt0, yt1, _, _⟩ := yt.facts
    have yt2 := yt.lt
    go_wp2_with fail
    refine (CE.out A2 B2 A3 B3 c2 d2 c3 d3 ⟨kv, kh⟩ _ (K.grow (by repeat (first | exact Grow.refl _ | assumption | refine Grow.alloc ?_ _ | refine Grow.drew ?_ | refine Grow.drewN ?_ _ | refine Grow.trans ?_ (by assumption) | refine Grow.below ?_ (by assumption) (by first | exact Nat.le_refl _ | omega)))) (T.grow (by repeat (first | exact Grow.refl _ | assumption | refine Grow.alloc ?_ _ | refine Grow.drew ?_ | refine Grow.drewN ?_ _ | refine Grow.trans ?_ (by assumption) | refine Grow.below ?_ (by assumption) (by first | exact Nat.le_refl _ | omega)))) l1 l2).mono ?_
    rintro e w5 ⟨rfl, g5⟩
    clear yk0 yk1 yk2 yt0 yt1 yt2
    have q : Grow w4 w5 := (by repeat (first | exact Grow.refl _ | assumption | refine Grow.alloc ?_ _ | refine Grow.drew ?_ | refine Grow.drewN ?_ _ | refine Grow.trans ?_ (by assumption) | refine Grow.below ?_ (by assumption) (by first | exact Nat.le_refl _ | omega)))
    have yd := (Box2.new w4 30 (.slice A4 dv.length c4) (.slice B4 dh.length d4)).grow g5
    have zw5 := yd.lt
    replace ys := ys.grow q
    replace yk := yk.grow q
    replace yt := yt.grow q
    replace S := S.grow q
    replace I := I.grow q
    replace K := K.grow q
    replace T := T.grow q
    replace D := D.grow q
    replace G := G.trans q
    clear q g5
    obtain ⟨yk0, yk1, _, _⟩ := yk.facts
    have yk2 := yk.lt
    obtain ⟨yt0, yt1, _, _⟩ := yt.facts
    have yt2 := yt.lt
    go_wp2_with fail
    refine (CE.out A2 B2 A3 B3 c2 d2 c3 d3 ⟨kv, kh⟩ _ (K.grow (by repeat (first | exact Grow.refl _ | assumption | refine Grow.alloc ?_ _ | refine Grow.drew ?_ | refine Grow.drewN ?_ _ | refine Grow.trans ?_ (by assumption) | refine Grow.below ?_ (by assumption) (by first | exact Nat.le_refl _ | omega)))) (T.grow (by repeat (first | exact Grow.refl _ | assumption | refine Grow.alloc ?_ _ | refine Grow.drew ?_ | refine Grow.drewN ?_ _ | refine Grow.trans ?_ (by assumption) | refine Grow.below ?_ (by assumption) (by first | exact Nat.le_refl _ | omega)))) l1 l2).mono ?_
    rintro e w6 ⟨rfl, g6⟩
    clear yk0 yk1 yk2 yt0 yt1 yt2
    have q : Grow w5 w6 := (by repeat (first | exact Grow.refl _ | assumption | refine Grow.alloc ?_ _ | refine Grow.drew ?_ | refine Grow.drewN ?_ _ | refine Grow.trans ?_ (by assumption) | refine Grow.below ?_ (by assumption) (by first | exact Nat.le_refl _ | omega)))
    have zw6 := q.le
    replace ys := ys.grow q
    replace yk := yk.grow q
    replace yt := yt.grow q
    replace yd := yd.grow q
    replace S := S.grow q
    replace I := I.grow q
    replace K := K.grow q
    replace T := T.grow q
    replace D := D.grow q
    replace G := G.trans q
    clear q g6
    go_wp2_with fail
    go_ret
    exact ⟨rfl, G⟩

set_option maxRecDepth 100000 in
theorem lifted (os : Os) (started : os.Started) (H : Type) (enc : TypeId × Value → H) :
    ReturnsInHanded {} Try.checked os 8 .any (Rows.fnJoinStatesSpec.pre6 enc Try.prog Try.f8 Rows.fnJoinStatesRow.domain false) (Rows.fnJoinStatesSpec.post enc Try.prog Try.f8 false true false false) := by
  refine returnsInHanded_of_change (C := Try.checked) own_knob started (by kernel_rfl) Try.func8
    (ChangeSpec.witness6 (enc := enc) (C := Try.checked) false ⟨#[], #[.slice none 0 0], []⟩ 8 (by kernel_rfl) (by kernel_rfl) (by kernel_rfl) (by kernel_rfl)) ?_
  intro W base args ds gs before hval0 hW hcnd _
  have hval : ∀ (j : Nat) t v, Try.f8.params[j]? = some t → args[j]? = some v → Value.okWide Try.prog W .any base t v := hval0
  have hW' := hW
  obtain ⟨p, q, hA0, hV, rfl, hfz, hnd⟩ := hW
  have hA : DataW.TrodAll enc Try.prog W 0 (fun _ => true) true Try.f8.params.toList args.toList ds p := hA0
  rw [Try.params8] at hA hval
  obtain ⟨v0, vs0, d0, ds0, p0, q0, hargs, rfl, rfl, h0, r0⟩ := trodAll_cons hA
  obtain ⟨rfl, rfl, rfl⟩ := trodAll_nil r0
  obtain rfl : args = #[v0] := by cases args; simp_all
  obtain ⟨rfl, rfl⟩ := trodVars_none hV
  have k0 := h0
  have lt0 : ∀ x ∈ p0, x.block < W.heap.size := by obtain ⟨m, hm⟩ := k0; exact DataW.trod_lt m _ _ _ hm
  obtain ⟨a0, len0, cap0, rfl⟩ := okWide_slice Try.underlying58 (hval 0 58 v0 rfl rfl)
  obtain ⟨hb0, w0, hc0⟩ : len0 ≤ 9223372036854775807 ∧ Bytes W a0 len0 ∧ len0 ≤ cap0 := by
    obtain ⟨fuel, hf⟩ := h0
    exact open_bytesL (by simpa [Value.cells] using hf)
  clear hA0 hval0
  refine (walk a0 cap0 len0 W w0 hb0 hc0).mono fun e W' ⟨he, bel⟩ => ?_
  subst he
  exact ⟨_, rfl, _, _, _, [], _, [], hW', trodAll_mk1 (shut_bool Try.underlying4 _), (trodAll_cons_mk (Below.trod laid_out (by kernel_rfl) (of_decide_eq_true (by kernel_rfl)) k0 bel lt0) trodAll_mk0), rfl, bel.frame _, fun h => by cases h⟩

theorem over : Rows.fnJoinStatesRow.holds Try.pinned (OpenSpec.ofChange Rows.fnJoinStatesSpec) :=
  OpenClaim.holds_of_wide 8 Try.f8 rfl rfl rfl rfl rfl rfl rfl ⟨rfl, rfl, rfl, rfl, rfl⟩ rfl rfl rfl rfl rfl (by kernel_rfl) Try.func8 (by kernel_rfl)
    (of_decide_eq_true (by kernel_rfl)) (by unfold Func.isWrapper; first | (rw [if_pos (by decide +kernel)]; kernel_rfl) | (rw [if_neg (by decide +kernel)]; exact ⟨rfl, rfl⟩))
    (fun os started H enc _ => lifted os started H enc)

/-- The statement. -/
theorem proved : Rows.FnJoinStatesSaid := over
#print axioms proved

end Go.Proofs.Ytcipmmieiafpbaa.lawFnJoinStates
