/- FnFreeCell: whatever state and address are drawn, a freed cell is gone and the others stay. No conditions. -/
import Derived.Test.YtagihhainhdhfaaSt9
import Derived.Test.YtagihhainhdhfaaDrawS2
import Derived.Test.YtagihhainhdhfaaPlainLaws
import Derived.Test.YtagihhainhdhfaaRowAid
namespace Go.Proofs.Ytagihhainhdhfaa.lawFnFreeCell
open Go.ChangeShapes Go.WideShapes Go.ChangeAt Go.RowKit Go.Joins Go.Deep
open Go.ChangeMaps (open_string shut_string)
set_option linter.unusedVariables false

set_option maxRecDepth 100000 in
set_option maxHeartbeats 6400000 in
theorem walk (A : Option Addr) (c n : Nat) (w : World) (hA : Bytes w A n) (hn : n ≤ 9223372036854775807) (hnc : n ≤ c) :
    Calls Try.prog 10 #[.slice A n c] w fun e w' => e = .returned (.bool true) ∧ Grow w w' := by
  by_cases hn20 : (1048576 : Int) < (n : Int)
  · go_enter Try.func10, Try.ntmps10
    go_wp2
    go_ret
    exact ⟨rfl, (by repeat (first | exact Grow.refl _ | assumption | refine Grow.alloc ?_ _ | refine Grow.drew ?_ | refine Grow.drewN ?_ _ | refine Grow.trans ?_ (by assumption) | refine Grow.below ?_ (by assumption) (by first | exact Nat.le_refl _ | omega)))⟩
  go_enter Try.func10, Try.ntmps10
  go_wp2_with fail
  refine (DrawFreeCell_c A n c _ hA hn hnc).mono ?_
  rintro e w1 ⟨A1, B1, c1, d1, v, h, a, rfl, o1, hl, hb_a, g1⟩
  have S := o1.st
  have G : Grow w w1 := g1
  obtain ⟨hl1, hl2⟩ := hl
  clear o1 g1 hA hnc
  obtain ⟨us, hus⟩ : ∃ l, l = Pl.usedC ⟨v, h⟩ := ⟨_, rfl⟩
  have hlu : us.length ≤ 8 := by rw [hus]; exact Pl.usedC_len _
  have CU := Lib.hid (show ∀ W, Sts W A1 B1 ⟨v, h⟩ → Calls Try.prog 26 #[sval A1 B1 c1 d1 ⟨v, h⟩] W (ROut W us) from fun W k => by have kk := UsedCells_c A1 B1 c1 d1 ⟨v, h⟩ W k (by show v.length ≤ _; omega) (by show h.length ≤ _; omega); rw [← hus] at kk; exact kk)
  have HUS := Lib.hid hus
  clear hus
  obtain ⟨r, hr⟩ : ∃ r, r = Pl.freeC ⟨v, h⟩ a := ⟨_, rfl⟩
  have hl : r.1.v.length ≤ 100 ∧ r.1.h.length ≤ 100 := by rw [hr]; exact Pl.freeC_len _ _ (by show v.length ≤ _; omega) (by show h.length ≤ _; omega)
  have CI := Lib.hid (show ∀ W, Sts W A1 B1 ⟨v, h⟩ → Calls Try.prog 36 #[sval A1 B1 c1 d1 ⟨v, h⟩, .int .i64 a] W (RSt W r) from fun W k => by have kk := FreeCell_c A1 B1 c1 d1 ⟨v, h⟩ a W k (by show v.length ≤ _; omega) (by show h.length ≤ _; omega); rw [← hr] at kk; exact kk)
  have CS := Lib.hid (show ∀ W, Sts W A1 B1 ⟨v, h⟩ → Calls Try.prog 37 #[sval A1 B1 c1 d1 ⟨v, h⟩, .int .i64 a] W (RSt W r) from fun W k => by have kk := sFreeCell_c A1 B1 c1 d1 ⟨v, h⟩ a W k (by show v.length ≤ _; omega) (by show h.length ≤ _; omega); rw [← hr] at kk; exact kk)
  obtain ⟨⟨rv, rh⟩, rb⟩ := r
  have hl3 : rv.length ≤ 100 := hl.1
  have hl4 : rh.length ≤ 100 := hl.2
  have HR := Lib.hid hr
  clear hl hr
  go_wp2_with fail
  refine (CI.out _ (S.grow (by repeat (first | exact Grow.refl _ | assumption | refine Grow.alloc ?_ _ | refine Grow.drew ?_ | refine Grow.drewN ?_ _ | refine Grow.trans ?_ (by assumption) | refine Grow.below ?_ (by assumption) (by first | exact Nat.le_refl _ | omega))))).mono ?_
  rintro e w2 ⟨A2, B2, c2, d2, rfl, o2, g2⟩
  have q : Grow w1 w2 := (by repeat (first | exact Grow.refl _ | assumption | refine Grow.alloc ?_ _ | refine Grow.drew ?_ | refine Grow.drewN ?_ _ | refine Grow.trans ?_ (by assumption) | refine Grow.below ?_ (by assumption) (by first | exact Nat.le_refl _ | omega)))
  have ys := (Box2.new w1 25 (.slice A1 v.length c1) (.slice B1 h.length d1)).grow g2
  have zw2 := ys.lt
  replace S := S.grow q
  replace G := G.trans q
  clear q g2
  have X := o2.st
  clear o2
  obtain ⟨ys0, ys1, _, _⟩ := ys.facts
  have ys2 := ys.lt
  go_wp2_with fail
  refine (CS.out _ (S.grow (by repeat (first | exact Grow.refl _ | assumption | refine Grow.alloc ?_ _ | refine Grow.drew ?_ | refine Grow.drewN ?_ _ | refine Grow.trans ?_ (by assumption) | refine Grow.below ?_ (by assumption) (by first | exact Nat.le_refl _ | omega))))).mono ?_
  rintro e w3 ⟨A3, B3, c3, d3, rfl, o3, g3⟩
  clear ys0 ys1 ys2
  have q : Grow w2 w3 := (by repeat (first | exact Grow.refl _ | assumption | refine Grow.alloc ?_ _ | refine Grow.drew ?_ | refine Grow.drewN ?_ _ | refine Grow.trans ?_ (by assumption) | refine Grow.below ?_ (by assumption) (by first | exact Nat.le_refl _ | omega)))
  have yx := (Box2.new w2 25 (.slice A2 rv.length c2) (.slice B2 rh.length d2)).grow g3
  have zw3 := yx.lt
  replace ys := ys.grow q
  replace S := S.grow q
  replace X := X.grow q
  replace G := G.trans q
  clear q g3
  have W := o3.st
  clear o3
  obtain ⟨yx0, yx1, _, _⟩ := yx.facts
  have yx2 := yx.lt
  go_wp2_with fail
  refine (StateSame_c A2 B2 A3 B3 c2 d2 c3 d3 ⟨rv, rh⟩ ⟨rv, rh⟩ _ (X.grow (by repeat (first | exact Grow.refl _ | assumption | refine Grow.alloc ?_ _ | refine Grow.drew ?_ | refine Grow.drewN ?_ _ | refine Grow.trans ?_ (by assumption) | refine Grow.below ?_ (by assumption) (by first | exact Nat.le_refl _ | omega)))) (W.grow (by repeat (first | exact Grow.refl _ | assumption | refine Grow.alloc ?_ _ | refine Grow.drew ?_ | refine Grow.drewN ?_ _ | refine Grow.trans ?_ (by assumption) | refine Grow.below ?_ (by assumption) (by first | exact Nat.le_refl _ | omega)))) (by show rv.length ≤ _; omega) (by show rh.length ≤ _; omega) (by show rv.length ≤ _; omega) (by show rh.length ≤ _; omega)).mono ?_
  rintro e w4 ⟨rfl, g4⟩
  clear yx0 yx1 yx2
  have q : Grow w3 w4 := (by repeat (first | exact Grow.refl _ | assumption | refine Grow.alloc ?_ _ | refine Grow.drew ?_ | refine Grow.drewN ?_ _ | refine Grow.trans ?_ (by assumption) | refine Grow.below ?_ (by assumption) (by first | exact Nat.le_refl _ | omega)))
  have yw := (Box2.new w3 25 (.slice A3 rv.length c3) (.slice B3 rh.length d3)).grow g4
  have zw4 := yw.lt
  replace ys := ys.grow q
  replace yx := yx.grow q
  replace S := S.grow q
  replace X := X.grow q
  replace W := W.grow q
  replace G := G.trans q
  clear q g4
  clear CI CS
  cases rb with
  | false =>
    obtain ⟨yx0, yx1, _, _⟩ := yx.facts
    have yx2 := yx.lt
    obtain ⟨yw0, yw1, _, _⟩ := yw.facts
    have yw2 := yw.lt
    go_wp2_with fail
    refine (StateSame_c A2 B2 A3 B3 c2 d2 c3 d3 ⟨rv, rh⟩ ⟨rv, rh⟩ _ (X.grow (by repeat (first | exact Grow.refl _ | assumption | refine Grow.alloc ?_ _ | refine Grow.drew ?_ | refine Grow.drewN ?_ _ | refine Grow.trans ?_ (by assumption) | refine Grow.below ?_ (by assumption) (by first | exact Nat.le_refl _ | omega)))) (W.grow (by repeat (first | exact Grow.refl _ | assumption | refine Grow.alloc ?_ _ | refine Grow.drew ?_ | refine Grow.drewN ?_ _ | refine Grow.trans ?_ (by assumption) | refine Grow.below ?_ (by assumption) (by first | exact Nat.le_refl _ | omega)))) (by show rv.length ≤ _; omega) (by show rh.length ≤ _; omega) (by show rv.length ≤ _; omega) (by show rh.length ≤ _; omega)).mono ?_
    rintro e w5 ⟨rfl, g5⟩
    clear yx0 yx1 yx2 yw0 yw1 yw2
    have q : Grow w4 w5 := (by repeat (first | exact Grow.refl _ | assumption | refine Grow.alloc ?_ _ | refine Grow.drew ?_ | refine Grow.drewN ?_ _ | refine Grow.trans ?_ (by assumption) | refine Grow.below ?_ (by assumption) (by first | exact Nat.le_refl _ | omega)))
    have zw5 := q.le
    replace ys := ys.grow q
    replace yx := yx.grow q
    replace yw := yw.grow q
    replace S := S.grow q
    replace X := X.grow q
    replace W := W.grow q
    replace G := G.trans q
    clear q g5
    go_wp2_with fail
    go_ret
    exact ⟨by simp, G⟩
  | true =>
    have L := Lib.hid (Pl.free_law HR.out)
    clear W yw
    have C1 := Lib.hid (show ∀ (i : Int) (r : Int × Bool) W, Pl.readC ⟨v, h⟩ i = r → Sts W A1 B1 ⟨v, h⟩ → Calls Try.prog 18 #[sval A1 B1 c1 d1 ⟨v, h⟩, .int .i64 i] W (fun e w' => e = .returned (.tuple #[.int .i64 r.1, .bool r.2]) ∧ Grow W w') from fun i r W p0 k => by have kk := ReadCell_c A1 B1 c1 d1 ⟨v, h⟩ i W k (by show v.length ≤ _; omega) (by show h.length ≤ _; omega); rw [p0] at kk; exact kk)
    have C2 := Lib.hid (show ∀ (i : Int) (r : Int × Bool) W, (if i = a then (0, false) else Pl.readC ⟨v, h⟩ i) = r → Sts W A2 B2 ⟨rv, rh⟩ → Calls Try.prog 18 #[sval A2 B2 c2 d2 ⟨rv, rh⟩, .int .i64 i] W (fun e w' => e = .returned (.tuple #[.int .i64 r.1, .bool r.2]) ∧ Grow W w') from fun i r W p0 k => by have kk := ReadCell_c A2 B2 c2 d2 ⟨rv, rh⟩ i W k (by show rv.length ≤ _; omega) (by show rh.length ≤ _; omega); rw [L.out.rd i, p0] at kk; exact kk)
    have C3 := Lib.hid (show ∀ W, Sts W A2 B2 ⟨rv, rh⟩ → Calls Try.prog 20 #[sval A2 B2 c2 d2 ⟨rv, rh⟩, .int .i64 a, .int .i64 0] W (RSt W (Pl.emp, false)) from fun W k => by have kk := WriteCell_c A2 B2 c2 d2 ⟨rv, rh⟩ a 0 W k (by show rv.length ≤ _; omega) (by show rh.length ≤ _; omega); rw [L.out.wr] at kk; exact kk)
    have C4 := Lib.hid (show ∀ W, Sts W A2 B2 ⟨rv, rh⟩ → Calls Try.prog 36 #[sval A2 B2 c2 d2 ⟨rv, rh⟩, .int .i64 a] W (RSt W (Pl.emp, false)) from fun W k => by have kk := FreeCell_c A2 B2 c2 d2 ⟨rv, rh⟩ a W k (by show rv.length ≤ _; omega) (by show rh.length ≤ _; omega); rw [L.out.fr] at kk; exact kk)
    obtain ⟨yx0, yx1, _, _⟩ := yx.facts
    have yx2 := yx.lt
    go_wp2_with fail
    refine (C2.out a (0, false) _ (if_pos rfl) X).mono ?_
    rintro e w_1 ⟨rfl, g_1⟩
    clear yx0 yx1 yx2
    have q : Grow w4 w_1 := (by repeat (first | exact Grow.refl _ | assumption | refine Grow.alloc ?_ _ | refine Grow.drew ?_ | refine Grow.drewN ?_ _ | refine Grow.trans ?_ (by assumption) | refine Grow.below ?_ (by assumption) (by first | exact Nat.le_refl _ | omega)))
    have zw_1 := q.le
    replace ys := ys.grow q
    replace yx := yx.grow q
    replace S := S.grow q
    replace X := X.grow q
    replace G := G.trans q
    clear q g_1
    obtain ⟨yx0, yx1, _, _⟩ := yx.facts
    have yx2 := yx.lt
    go_wp2_with fail
    refine (C3.out _ X).mono ?_
    rintro e w_2 ⟨A11, B11, c11, d11, rfl, o11, g_2⟩
    clear yx0 yx1 yx2
    have q : Grow w_1 w_2 := (by repeat (first | exact Grow.refl _ | assumption | refine Grow.alloc ?_ _ | refine Grow.drew ?_ | refine Grow.drewN ?_ _ | refine Grow.trans ?_ (by assumption) | refine Grow.below ?_ (by assumption) (by first | exact Nat.le_refl _ | omega)))
    have zw_2 := q.le
    replace ys := ys.grow q
    replace yx := yx.grow q
    replace S := S.grow q
    replace X := X.grow q
    replace G := G.trans q
    clear q g_2
    clear o11
    obtain ⟨yx0, yx1, _, _⟩ := yx.facts
    have yx2 := yx.lt
    go_wp2_with fail
    refine (C4.out _ (X.grow (by repeat (first | exact Grow.refl _ | assumption | refine Grow.alloc ?_ _ | refine Grow.drew ?_ | refine Grow.drewN ?_ _ | refine Grow.trans ?_ (by assumption) | refine Grow.below ?_ (by assumption) (by first | exact Nat.le_refl _ | omega))))).mono ?_
    rintro e w_3 ⟨A12, B12, c12, d12, rfl, o12, g_3⟩
    clear yx0 yx1 yx2
    have q : Grow w_2 w_3 := (by repeat (first | exact Grow.refl _ | assumption | refine Grow.alloc ?_ _ | refine Grow.drew ?_ | refine Grow.drewN ?_ _ | refine Grow.trans ?_ (by assumption) | refine Grow.below ?_ (by assumption) (by first | exact Nat.le_refl _ | omega)))
    have zw_3 := q.le
    replace ys := ys.grow q
    replace yx := yx.grow q
    replace S := S.grow q
    replace X := X.grow q
    replace G := G.trans q
    clear q g_3
    clear o12
    obtain ⟨ys0, ys1, _, _⟩ := ys.facts
    have ys2 := ys.lt
    go_wp2_with fail
    refine (CU.out _ (S.grow (by repeat (first | exact Grow.refl _ | assumption | refine Grow.alloc ?_ _ | refine Grow.drew ?_ | refine Grow.drewN ?_ _ | refine Grow.trans ?_ (by assumption) | refine Grow.below ?_ (by assumption) (by first | exact Nat.le_refl _ | omega))))).mono ?_
    rintro e w_4 ⟨A4, c4, rfl, o4, g_4⟩
    clear ys0 ys1 ys2
    have q : Grow w_3 w_4 := (by repeat (first | exact Grow.refl _ | assumption | refine Grow.alloc ?_ _ | refine Grow.drew ?_ | refine Grow.drewN ?_ _ | refine Grow.trans ?_ (by assumption) | refine Grow.below ?_ (by assumption) (by first | exact Nat.le_refl _ | omega)))
    have zw_4 := q.le
    replace ys := ys.grow q
    replace yx := yx.grow q
    replace S := S.grow q
    replace X := X.grow q
    replace G := G.trans q
    clear q g_4
    have U := OInts.ints rfl o4
    clear o4 CU
    go_wp2_with fail
    go_loopw [16] (fun i wr => ∃ k : Nat, k ≤ us.length ∧ i = .int .i64 k ∧ Grow w wr ∧ Sts wr A1 B1 ⟨v, h⟩ ∧ Sts wr A2 B2 ⟨rv, rh⟩ ∧ Ints wr A4 us ∧ Box2 wr w1.heap.size 25 (.slice A1 v.length c1) (.slice B1 h.length d1) ∧ Box2 wr w2.heap.size 25 (.slice A2 rv.length c2) (.slice B2 rh.length d2)) (fun i _ => us.length + 1 - (intOf i).toNat)
    case atStart => exact ⟨0, Nat.zero_le _, rfl, G, S, X, U, ys, yx⟩
    case round =>
      clear G S X U ys yx
      obtain ⟨k, hk, rfl, G, S, X, U, ys, yx⟩ := hrel
      by_cases hku : k < us.length
      · have hk0 : (0 : Int) ≤ (k : Int) := by omega
        have hk1 : (k : Int) < (us.length : Int) := by omega
        obtain ⟨y, hy⟩ : ∃ y, Pl.readC ⟨v, h⟩ us[k] = (y, true) := ⟨_, Prod.ext rfl (L.out.us _ (by rw [← HUS.out]; exact List.getElem_mem hku))⟩
        have HY := Lib.hid hy
        clear hy
        obtain ⟨bu, ou, rfl, cu⟩ := U.at_ hku
        obtain ⟨ys0, ys1, _, _⟩ := ys.facts
        have ys2 := ys.lt
        go_wp2_with fail
        go_region_held3 (fun W => W.cell? ⟨w1.heap.size, 0, none⟩ = some (.slice A1 v.length c1) ∧ W.cell? ⟨w1.heap.size, 1, none⟩ = some (.slice B1 h.length d1) ∧ W.cell? ⟨bu, ou + k, none⟩ = some (.int .i64 us[k]))
          (first | go_keep | (go_split_ands; exact ⟨g_5.cell (by assumption), g_5.cell (by assumption), g_5.cell (by assumption)⟩))
          ((go_at_call 18; refine (C1.out us[k] (y, true) _ HY.out (S.grow (by repeat (first | exact Grow.refl _ | assumption | refine Grow.alloc ?_ _ | refine Grow.drew ?_ | refine Grow.drewN ?_ _ | refine Grow.trans ?_ (by assumption) | refine Grow.below ?_ (by assumption) (by first | exact Nat.le_refl _ | omega))))).mono ?_; rintro e w_5 ⟨rfl, g_5⟩))
        clear ys0 ys1 ys2
        have q : Grow wr w_5 := (by repeat (first | exact Grow.refl _ | assumption | refine Grow.alloc ?_ _ | refine Grow.drew ?_ | refine Grow.drewN ?_ _ | refine Grow.trans ?_ (by assumption) | refine Grow.below ?_ (by assumption) (by first | exact Nat.le_refl _ | omega)))
        have zw_5 := q.le
        replace ys := ys.grow q
        replace yx := yx.grow q
        replace S := S.grow q
        replace X := X.grow q
        replace U := U.grow q
        replace G := G.trans q
        clear q g_5
        have cu2 : w_5.cell? ⟨bu, ou + k, none⟩ = some (.int .i64 us[k]) := by obtain ⟨b, o, hh, c⟩ := U.at_ hku; injection hh with hh; injection hh with h1 h2 _; subst h1 h2; exact c
        clear cu
        by_cases hka : us[k] = a
        · have b0 : (us[k] != a) = false := by simp [hka]
          have HZ := Lib.hid (show (if us[k] = a then (0, false) else Pl.readC ⟨v, h⟩ us[k]) = (0, false) by rw [if_pos hka])
          clear hka
          obtain ⟨yx0, yx1, _, _⟩ := yx.facts
          have yx2 := yx.lt
          go_wp2_with fail
          go_region_held3 (fun W => W.cell? ⟨w2.heap.size, 0, none⟩ = some (.slice A2 rv.length c2) ∧ W.cell? ⟨w2.heap.size, 1, none⟩ = some (.slice B2 rh.length d2) ∧ W.cell? ⟨bu, ou + k, none⟩ = some (.int .i64 us[k]))
            (first | go_keep | (go_split_ands; exact ⟨g_6.cell (by assumption), g_6.cell (by assumption), g_6.cell (by assumption)⟩))
            ((go_at_call 18; refine (C2.out us[k] (0, false) _ HZ.out (X.grow (by repeat (first | exact Grow.refl _ | assumption | refine Grow.alloc ?_ _ | refine Grow.drew ?_ | refine Grow.drewN ?_ _ | refine Grow.trans ?_ (by assumption) | refine Grow.below ?_ (by assumption) (by first | exact Nat.le_refl _ | omega))))).mono ?_; rintro e w_6 ⟨rfl, g_6⟩))
          clear yx0 yx1 yx2
          have q : Grow w_5 w_6 := (by repeat (first | exact Grow.refl _ | assumption | refine Grow.alloc ?_ _ | refine Grow.drew ?_ | refine Grow.drewN ?_ _ | refine Grow.trans ?_ (by assumption) | refine Grow.below ?_ (by assumption) (by first | exact Nat.le_refl _ | omega)))
          have zw_6 := q.le
          replace ys := ys.grow q
          replace yx := yx.grow q
          replace S := S.grow q
          replace X := X.grow q
          replace U := U.grow q
          replace G := G.trans q
          clear q g_6
          have cu3 : w_6.cell? ⟨bu, ou + k, none⟩ = some (.int .i64 us[k]) := by obtain ⟨b, o, hh, c⟩ := U.at_ hku; injection hh with hh; injection hh with h1 h2 _; subst h1 h2; exact c
          clear cu2
          go_wp2_with fail
          go_roundw
          case rel => exact ⟨k + 1, by omega, by go_num, G, S, X, U, ys, yx⟩
          case measure => simp [intOf]; omega
        · have b0 : (us[k] != a) = true := by simp [hka]
          have b1 : (y != y) = false := by simp
          have HZ := Lib.hid (show (if us[k] = a then (0, false) else Pl.readC ⟨v, h⟩ us[k]) = (y, true) by rw [if_neg hka]; exact HY.out)
          clear hka
          obtain ⟨yx0, yx1, _, _⟩ := yx.facts
          have yx2 := yx.lt
          go_wp2_with fail
          go_region_held3 (fun W => W.cell? ⟨w2.heap.size, 0, none⟩ = some (.slice A2 rv.length c2) ∧ W.cell? ⟨w2.heap.size, 1, none⟩ = some (.slice B2 rh.length d2) ∧ W.cell? ⟨bu, ou + k, none⟩ = some (.int .i64 us[k]))
            (first | go_keep | (go_split_ands; exact ⟨g_6.cell (by assumption), g_6.cell (by assumption), g_6.cell (by assumption)⟩))
            ((go_at_call 18; refine (C2.out us[k] (y, true) _ HZ.out (X.grow (by repeat (first | exact Grow.refl _ | assumption | refine Grow.alloc ?_ _ | refine Grow.drew ?_ | refine Grow.drewN ?_ _ | refine Grow.trans ?_ (by assumption) | refine Grow.below ?_ (by assumption) (by first | exact Nat.le_refl _ | omega))))).mono ?_; rintro e w_6 ⟨rfl, g_6⟩))
          clear yx0 yx1 yx2
          have q : Grow w_5 w_6 := (by repeat (first | exact Grow.refl _ | assumption | refine Grow.alloc ?_ _ | refine Grow.drew ?_ | refine Grow.drewN ?_ _ | refine Grow.trans ?_ (by assumption) | refine Grow.below ?_ (by assumption) (by first | exact Nat.le_refl _ | omega)))
          have zw_6 := q.le
          replace ys := ys.grow q
          replace yx := yx.grow q
          replace S := S.grow q
          replace X := X.grow q
          replace U := U.grow q
          replace G := G.trans q
          clear q g_6
          have cu3 : w_6.cell? ⟨bu, ou + k, none⟩ = some (.int .i64 us[k]) := by obtain ⟨b, o, hh, c⟩ := U.at_ hku; injection hh with hh; injection hh with h1 h2 _; subst h1 h2; exact c
          clear cu2
          go_wp2_with fail
          go_roundw
          case rel => exact ⟨k + 1, by omega, by go_num, G, S, X, U, ys, yx⟩
          case measure => simp [intOf]; omega
      · have hk0 : ¬ (k : Int) < (us.length : Int) := by omega
        go_wp2_with fail
        go_ret
        exact ⟨rfl, G⟩

set_option maxRecDepth 100000 in
theorem lifted (os : Os) (started : os.Started) (H : Type) (enc : TypeId × Value → H) :
    ReturnsInHanded {} Try.checked os 10 .any (Rows.fnFreeCellSpec.pre6 enc Try.prog Try.f10 Rows.fnFreeCellRow.domain false) (Rows.fnFreeCellSpec.post enc Try.prog Try.f10 false true false false) := by
  refine returnsInHanded_of_change (C := Try.checked) own_knob started (by kernel_rfl) Try.func10
    (ChangeSpec.witness6 (enc := enc) (C := Try.checked) false ⟨#[], #[.slice none 0 0], []⟩ 8 (by kernel_rfl) (by kernel_rfl) (by kernel_rfl) (by kernel_rfl)) ?_
  intro W base args ds gs before hval0 hW hcnd _
  have hval : ∀ (j : Nat) t v, Try.f10.params[j]? = some t → args[j]? = some v → Value.okWide Try.prog W .any base t v := hval0
  have hW' := hW
  obtain ⟨p, q, hA0, hV, rfl, hfz, hnd⟩ := hW
  have hA : DataW.TrodAll enc Try.prog W 0 (fun _ => true) true Try.f10.params.toList args.toList ds p := hA0
  rw [Try.params10] at hA hval
  obtain ⟨v0, vs0, d0, ds0, p0, q0, hargs, rfl, rfl, h0, r0⟩ := trodAll_cons hA
  obtain ⟨rfl, rfl, rfl⟩ := trodAll_nil r0
  obtain rfl : args = #[v0] := by cases args; simp_all
  obtain ⟨rfl, rfl⟩ := trodVars_none hV
  have k0 := h0
  have lt0 : ∀ x ∈ p0, x.block < W.heap.size := by obtain ⟨m, hm⟩ := k0; exact DataW.trod_lt m _ _ _ hm
  obtain ⟨a0, len0, cap0, rfl⟩ := okWide_slice Try.underlying22 (hval 0 22 v0 rfl rfl)
  obtain ⟨hb0, w0, hc0⟩ : len0 ≤ 9223372036854775807 ∧ Bytes W a0 len0 ∧ len0 ≤ cap0 := by
    obtain ⟨fuel, hf⟩ := h0
    exact open_bytesL (by simpa [Value.cells] using hf)
  clear hA0 hval0
  refine (walk a0 cap0 len0 W w0 hb0 hc0).mono fun e W' ⟨he, bel⟩ => ?_
  subst he
  exact ⟨_, rfl, _, _, _, [], _, [], hW', trodAll_mk1 (shut_bool Try.underlying4 _), (trodAll_cons_mk (Below.trod laid_out (by kernel_rfl) (of_decide_eq_true (by kernel_rfl)) k0 bel lt0) trodAll_mk0), rfl, bel.frame _, fun h => by cases h⟩

theorem over : Rows.fnFreeCellRow.holds Try.pinned (OpenSpec.ofChange Rows.fnFreeCellSpec) :=
  OpenClaim.holds_of_wide 10 Try.f10 rfl rfl rfl rfl rfl rfl rfl ⟨rfl, rfl, rfl, rfl, rfl⟩ rfl rfl rfl rfl rfl (by kernel_rfl) Try.func10 (by kernel_rfl)
    (of_decide_eq_true (by kernel_rfl)) (by unfold Func.isWrapper; first | (rw [if_pos (by decide +kernel)]; kernel_rfl) | (rw [if_neg (by decide +kernel)]; exact ⟨rfl, rfl⟩))
    (fun os started H enc _ => lifted os started H enc)

/-- The statement. -/
theorem proved : Rows.FnFreeCellSaid := over
#print axioms proved

end Go.Proofs.Ytagihhainhdhfaa.lawFnFreeCell
