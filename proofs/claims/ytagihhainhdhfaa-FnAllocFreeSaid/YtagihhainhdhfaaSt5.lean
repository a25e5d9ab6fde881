/- Contracts of reading values and cells of states, in the program and in the reference. Conditions: the lengths are far from Go's bounds. -/
import Derived.Test.YtagihhainhdhfaaSt4
import Derived.Test.YtagihhainhdhfaaFactC
import Derived.Test.YtagihhainhdhfaaPlainWays
namespace Go.Proofs.Ytagihhainhdhfaa
open Go.RowKit
set_option linter.unusedVariables false

theorem termValue_n (A : Option Addr) (c : Nat) (vs : List Int) (t : Int) (w : World) (hA : Ints w A vs) (hn : vs.length = 8) (h0 : 0 ≤ t) (h8 : t ≤ 8) :
    Calls Try.prog 51 #[.slice A vs.length c, .int .i64 t] w fun e w' => e = .returned (.int .i64 (Pl.tval vs t)) ∧ w = w' := by
  rw [hn]; exact termValue_c A c vs t w hA hn h0 h8


set_option maxHeartbeats 400000 in
theorem ValueOf_c (A B : Option Addr) (c d : Nat) (s : Pl.St) (t : Int) (w : World) (hS : Sts w A B s) (h1 : s.v.length ≤ 4194304) (h2 : s.h.length ≤ 4194304) :
    Calls Try.prog 16 #[sval A B c d s, .int .i64 t] w fun e w' => e = .returned (.tuple #[.int .i64 (Pl.valueOf s t).1, .bool (Pl.valueOf s t).2]) ∧ Grow w w' := by
  cases hs : Pl.stv s with
  | false =>
    have HS := Lib.hid hs
    have HX := Lib.hid (show Pl.valueOf s t = (0, false) by unfold Pl.valueOf; rw [hs]; rfl)
    clear hs
    go_enter Try.func16, Try.ntmps16
    go_wp2_with fail
    refine (StateValid_c A B c d s _ (hS.grow (by repeat (first | exact Grow.refl _ | assumption | refine Grow.alloc ?_ _ | refine Grow.drew ?_ | refine Grow.drewN ?_ _ | refine Grow.trans ?_ (by assumption) | refine Grow.below ?_ (by assumption) (by first | exact Nat.le_refl _ | omega)))) h1 h2).mono ?_
    rintro e w1 ⟨rfl, g1⟩
    rw [HS.out]
    go_wp2_with fail
    go_ret2
    exact ⟨by rw [HX.out]; rfl, (by repeat (first | exact Grow.refl _ | assumption | refine Grow.alloc ?_ _ | refine Grow.drew ?_ | refine Grow.drewN ?_ _ | refine Grow.trans ?_ (by assumption) | refine Grow.below ?_ (by assumption) (by first | exact Nat.le_refl _ | omega)))⟩
  | true =>
    have HS := Lib.hid hs
    have hv8 := Lib.hid (Pl.stv_v hs)
    cases ht : Pl.tmB t with
    | false =>
      have HT := Lib.hid ht
      have HX := Lib.hid (show Pl.valueOf s t = (0, false) by unfold Pl.valueOf; rw [hs, ht]; rfl)
      clear hs ht
      go_enter Try.func16, Try.ntmps16
      go_wp2_with fail
      refine (StateValid_c A B c d s _ (hS.grow (by repeat (first | exact Grow.refl _ | assumption | refine Grow.alloc ?_ _ | refine Grow.drew ?_ | refine Grow.drewN ?_ _ | refine Grow.trans ?_ (by assumption) | refine Grow.below ?_ (by assumption) (by first | exact Nat.le_refl _ | omega)))) h1 h2).mono ?_
      rintro e w1 ⟨rfl, g1⟩
      rw [HS.out]
      go_wp2_with fail
      refine (isTerm_c t _).mono ?_
      rintro e w2 ⟨rfl, rfl⟩
      rw [HT.out]
      go_wp2_with fail
      go_ret2
      exact ⟨by rw [HX.out]; rfl, (by repeat (first | exact Grow.refl _ | assumption | refine Grow.alloc ?_ _ | refine Grow.drew ?_ | refine Grow.drewN ?_ _ | refine Grow.trans ?_ (by assumption) | refine Grow.below ?_ (by assumption) (by first | exact Nat.le_refl _ | omega)))⟩
    | true =>
      have HT := Lib.hid ht
      have htr := (Pl.tmB_iff t).1 ht
      have HX := Lib.hid (Pl.valueOf_mk hs htr)
      clear hs ht
      obtain ⟨v, h⟩ := s
      go_enter Try.func16, Try.ntmps16
      go_wp2_with fail
      refine (StateValid_c A B c d ⟨v, h⟩ _ (hS.grow (by repeat (first | exact Grow.refl _ | assumption | refine Grow.alloc ?_ _ | refine Grow.drew ?_ | refine Grow.drewN ?_ _ | refine Grow.trans ?_ (by assumption) | refine Grow.below ?_ (by assumption) (by first | exact Nat.le_refl _ | omega)))) h1 h2).mono ?_
      rintro e w1 ⟨rfl, g1⟩
      rw [HS.out]
      obtain ⟨k0, k1, _, _⟩ := ((Box2.new w 25 (.slice A v.length c) (.slice B h.length d)).grow g1).facts
      go_wp2_with fail
      refine (isTerm_c t _).mono ?_
      rintro e w2 ⟨rfl, rfl⟩
      rw [HT.out]
      go_wp2_with fail
      refine (termValue_n A c v t _ (hS.v.grow (by repeat (first | exact Grow.refl _ | assumption | refine Grow.alloc ?_ _ | refine Grow.drew ?_ | refine Grow.drewN ?_ _ | refine Grow.trans ?_ (by assumption) | refine Grow.below ?_ (by assumption) (by first | exact Nat.le_refl _ | omega)))) hv8.out htr.1 htr.2).mono ?_
      rintro e w2 ⟨rfl, rfl⟩
      go_wp2_with fail
      go_ret2
      exact ⟨by rw [HX.out]; rfl, (by repeat (first | exact Grow.refl _ | assumption | refine Grow.alloc ?_ _ | refine Grow.drew ?_ | refine Grow.drewN ?_ _ | refine Grow.trans ?_ (by assumption) | refine Grow.below ?_ (by assumption) (by first | exact Nat.le_refl _ | omega)))⟩


set_option maxHeartbeats 400000 in
theorem ReadCell_c (A B : Option Addr) (c d : Nat) (s : Pl.St) (a : Int) (w : World) (hS : Sts w A B s) (h1 : s.v.length ≤ 4194304) (h2 : s.h.length ≤ 4194304) :
    Calls Try.prog 18 #[sval A B c d s, .int .i64 a] w fun e w' => e = .returned (.tuple #[.int .i64 (Pl.readC s a).1, .bool (Pl.readC s a).2]) ∧ Grow w w' := by
  cases hs : Pl.stv s with
  | false =>
    have HS := Lib.hid hs
    have HX := Lib.hid (show Pl.readC s a = (0, false) by unfold Pl.readC; rw [hs]; rfl)
    clear hs
    go_enter Try.func18, Try.ntmps18
    go_wp2_with fail
    refine (StateValid_c A B c d s _ (hS.grow (by repeat (first | exact Grow.refl _ | assumption | refine Grow.alloc ?_ _ | refine Grow.drew ?_ | refine Grow.drewN ?_ _ | refine Grow.trans ?_ (by assumption) | refine Grow.below ?_ (by assumption) (by first | exact Nat.le_refl _ | omega)))) h1 h2).mono ?_
    rintro e w1 ⟨rfl, g1⟩
    rw [HS.out]
    go_wp2_with fail
    go_ret2
    exact ⟨by rw [HX.out]; rfl, (by repeat (first | exact Grow.refl _ | assumption | refine Grow.alloc ?_ _ | refine Grow.drew ?_ | refine Grow.drewN ?_ _ | refine Grow.trans ?_ (by assumption) | refine Grow.below ?_ (by assumption) (by first | exact Nat.le_refl _ | omega)))⟩
  | true =>
    have HS := Lib.hid hs
    have hh8 := Lib.hid (Pl.stv_h hs)
    obtain ⟨v, h⟩ := s
    have y1 := Box2.new w 25 (.slice A v.length c) (.slice B h.length d)
    cases ha : Pl.hasB h a with
    | false =>
      have HA := Lib.hid ha
      have HX := Lib.hid (show Pl.readC ⟨v, h⟩ a = (0, false) from Pl.readC_no ha)
      clear hs ha
      go_enter Try.func18, Try.ntmps18
      go_wp2_with fail
      refine (StateValid_c A B c d ⟨v, h⟩ _ (hS.grow (by repeat (first | exact Grow.refl _ | assumption | refine Grow.alloc ?_ _ | refine Grow.drew ?_ | refine Grow.drewN ?_ _ | refine Grow.trans ?_ (by assumption) | refine Grow.below ?_ (by assumption) (by first | exact Nat.le_refl _ | omega)))) h1 h2).mono ?_
      rintro e w1 ⟨rfl, g1⟩
      rw [HS.out]
      obtain ⟨k0, k1, _, _⟩ := (y1.grow g1).facts
      go_wp2_with fail
      refine (allocated_c A B v.length c d h a _ (hS.h.grow (by repeat (first | exact Grow.refl _ | assumption | refine Grow.alloc ?_ _ | refine Grow.drew ?_ | refine Grow.drewN ?_ _ | refine Grow.trans ?_ (by assumption) | refine Grow.below ?_ (by assumption) (by first | exact Nat.le_refl _ | omega)))) hh8.out).mono ?_
      rintro e w2 ⟨rfl, g2⟩
      rw [HA.out]
      go_wp2_with fail
      go_ret2
      exact ⟨by rw [HX.out]; rfl, (by repeat (first | exact Grow.refl _ | assumption | refine Grow.alloc ?_ _ | refine Grow.drew ?_ | refine Grow.drewN ?_ _ | refine Grow.trans ?_ (by assumption) | refine Grow.below ?_ (by assumption) (by first | exact Nat.le_refl _ | omega)))⟩
    | true =>
      have HA := Lib.hid ha
      have HX := Lib.hid (show Pl.readC ⟨v, h⟩ a = (Pl.cont h a, true) from Pl.readC_mk hs ha)
      have har := Pl.has_ad ha
      obtain ⟨k, rfl⟩ : ∃ k : Nat, a = (k : Int) + 1 := ⟨(a - 1).toNat, by omega⟩
      have hk : k < h.length := by have h8 : h.length = 8 := hh8.out; omega
      have HC := Lib.hid (Pl.cont_in hk hh8.out)
      clear hs ha
      go_enter Try.func18, Try.ntmps18
      go_wp2_with fail
      refine (StateValid_c A B c d ⟨v, h⟩ _ (hS.grow (by repeat (first | exact Grow.refl _ | assumption | refine Grow.alloc ?_ _ | refine Grow.drew ?_ | refine Grow.drewN ?_ _ | refine Grow.trans ?_ (by assumption) | refine Grow.below ?_ (by assumption) (by first | exact Nat.le_refl _ | omega)))) h1 h2).mono ?_
      rintro e w1 ⟨rfl, g1⟩
      rw [HS.out]
      obtain ⟨k0, k1, _, _⟩ := (y1.grow g1).facts
      go_wp2_with fail
      refine (allocated_c A B v.length c d h _ _ (hS.h.grow (by repeat (first | exact Grow.refl _ | assumption | refine Grow.alloc ?_ _ | refine Grow.drew ?_ | refine Grow.drewN ?_ _ | refine Grow.trans ?_ (by assumption) | refine Grow.below ?_ (by assumption) (by first | exact Nat.le_refl _ | omega)))) hh8.out).mono ?_
      rintro e w2 ⟨rfl, g2⟩
      rw [HA.out]
      have j0 := g2.cell k0
      have j1 := g2.cell k1
      clear k0 k1 y1
      go_wp2_with fail
      refine (content_c A B v.length c d h _ _ (hS.h.grow (by repeat (first | exact Grow.refl _ | assumption | refine Grow.alloc ?_ _ | refine Grow.drew ?_ | refine Grow.drewN ?_ _ | refine Grow.trans ?_ (by assumption) | refine Grow.below ?_ (by assumption) (by first | exact Nat.le_refl _ | omega)))) hh8.out).mono ?_
      rintro e w3 ⟨rfl, g3⟩
      go_wp2_with fail
      go_ret2
      exact ⟨by rw [HX.out]; rfl, (by repeat (first | exact Grow.refl _ | assumption | refine Grow.alloc ?_ _ | refine Grow.drew ?_ | refine Grow.drewN ?_ _ | refine Grow.trans ?_ (by assumption) | refine Grow.below ?_ (by assumption) (by first | exact Nat.le_refl _ | omega)))⟩

set_option maxHeartbeats 400000 in
theorem sReadCell_c (A B : Option Addr) (c d : Nat) (s : Pl.St) (a : Int) (w : World) (hS : Sts w A B s) (h1 : s.v.length ≤ 4194304) (h2 : s.h.length ≤ 4194304) :
    Calls Try.prog 19 #[sval A B c d s, .int .i64 a] w fun e w' => e = .returned (.tuple #[.int .i64 (Pl.readC s a).1, .bool (Pl.readC s a).2]) ∧ Grow w w' := by
  cases hs : Pl.stv s with
  | false =>
    have HS := Lib.hid hs
    have HX := Lib.hid (show Pl.readC s a = (0, false) by unfold Pl.readC; rw [hs]; rfl)
    clear hs
    go_enter Try.func19, Try.ntmps19
    go_wp2_with fail
    refine (sStateValid_c A B c d s _ (hS.grow (by repeat (first | exact Grow.refl _ | assumption | refine Grow.alloc ?_ _ | refine Grow.drew ?_ | refine Grow.drewN ?_ _ | refine Grow.trans ?_ (by assumption) | refine Grow.below ?_ (by assumption) (by first | exact Nat.le_refl _ | omega)))) h1 h2).mono ?_
    rintro e w1 ⟨rfl, g1⟩
    rw [HS.out]
    go_wp2_with fail
    go_ret2
    exact ⟨by rw [HX.out]; rfl, (by repeat (first | exact Grow.refl _ | assumption | refine Grow.alloc ?_ _ | refine Grow.drew ?_ | refine Grow.drewN ?_ _ | refine Grow.trans ?_ (by assumption) | refine Grow.below ?_ (by assumption) (by first | exact Nat.le_refl _ | omega)))⟩
  | true =>
    have HS := Lib.hid hs
    have hh8 := Lib.hid (Pl.stv_h hs)
    obtain ⟨v, h⟩ := s
    have y1 := Box2.new w 25 (.slice A v.length c) (.slice B h.length d)
    cases ha : Pl.hasB h a with
    | false =>
      have HA := Lib.hid ha
      have HX := Lib.hid (show Pl.readC ⟨v, h⟩ a = (0, false) from Pl.readC_no ha)
      clear hs ha
      go_enter Try.func19, Try.ntmps19
      go_wp2_with fail
      refine (sStateValid_c A B c d ⟨v, h⟩ _ (hS.grow (by repeat (first | exact Grow.refl _ | assumption | refine Grow.alloc ?_ _ | refine Grow.drew ?_ | refine Grow.drewN ?_ _ | refine Grow.trans ?_ (by assumption) | refine Grow.below ?_ (by assumption) (by first | exact Nat.le_refl _ | omega)))) h1 h2).mono ?_
      rintro e w1 ⟨rfl, g1⟩
      rw [HS.out]
      obtain ⟨k0, k1, _, _⟩ := (y1.grow g1).facts
      go_wp2_with fail
      refine (l2Has_c A B v.length c d h a _ (hS.h.grow (by repeat (first | exact Grow.refl _ | assumption | refine Grow.alloc ?_ _ | refine Grow.drew ?_ | refine Grow.drewN ?_ _ | refine Grow.trans ?_ (by assumption) | refine Grow.below ?_ (by assumption) (by first | exact Nat.le_refl _ | omega)))) hh8.out).mono ?_
      rintro e w2 ⟨rfl, g2⟩
      rw [HA.out]
      go_wp2_with fail
      go_ret2
      exact ⟨by rw [HX.out]; rfl, (by repeat (first | exact Grow.refl _ | assumption | refine Grow.alloc ?_ _ | refine Grow.drew ?_ | refine Grow.drewN ?_ _ | refine Grow.trans ?_ (by assumption) | refine Grow.below ?_ (by assumption) (by first | exact Nat.le_refl _ | omega)))⟩
    | true =>
      have HA := Lib.hid ha
      have HX := Lib.hid (show Pl.readC ⟨v, h⟩ a = (Pl.cont h a, true) from Pl.readC_mk hs ha)
      have har := Pl.has_ad ha
      obtain ⟨k, rfl⟩ : ∃ k : Nat, a = (k : Int) + 1 := ⟨(a - 1).toNat, by omega⟩
      have hk : k < h.length := by have h8 : h.length = 8 := hh8.out; omega
      have HC := Lib.hid (Pl.cont_in hk hh8.out)
      clear hs ha
      go_enter Try.func19, Try.ntmps19
      go_wp2_with fail
      refine (sStateValid_c A B c d ⟨v, h⟩ _ (hS.grow (by repeat (first | exact Grow.refl _ | assumption | refine Grow.alloc ?_ _ | refine Grow.drew ?_ | refine Grow.drewN ?_ _ | refine Grow.trans ?_ (by assumption) | refine Grow.below ?_ (by assumption) (by first | exact Nat.le_refl _ | omega)))) h1 h2).mono ?_
      rintro e w1 ⟨rfl, g1⟩
      rw [HS.out]
      obtain ⟨k0, k1, _, _⟩ := (y1.grow g1).facts
      go_wp2_with fail
      refine (l2Has_c A B v.length c d h _ _ (hS.h.grow (by repeat (first | exact Grow.refl _ | assumption | refine Grow.alloc ?_ _ | refine Grow.drew ?_ | refine Grow.drewN ?_ _ | refine Grow.trans ?_ (by assumption) | refine Grow.below ?_ (by assumption) (by first | exact Nat.le_refl _ | omega)))) hh8.out).mono ?_
      rintro e w2 ⟨rfl, g2⟩
      rw [HA.out]
      have j0 := g2.cell k0
      have j1 := g2.cell k1
      clear k0 k1 y1
      obtain ⟨b, off, rfl, c0⟩ := (hS.h.grow (show Grow w w2 from (by repeat (first | exact Grow.refl _ | assumption | refine Grow.alloc ?_ _ | refine Grow.drew ?_ | refine Grow.drewN ?_ _ | refine Grow.trans ?_ (by assumption) | refine Grow.below ?_ (by assumption) (by first | exact Nat.le_refl _ | omega))))).at_ hk
      go_wp2_with fail
      go_ret2
      exact ⟨by rw [HX.out, HC.out]; rfl, (by repeat (first | exact Grow.refl _ | assumption | refine Grow.alloc ?_ _ | refine Grow.drew ?_ | refine Grow.drewN ?_ _ | refine Grow.trans ?_ (by assumption) | refine Grow.below ?_ (by assumption) (by first | exact Nat.le_refl _ | omega)))⟩

end Go.Proofs.Ytagihhainhdhfaa
