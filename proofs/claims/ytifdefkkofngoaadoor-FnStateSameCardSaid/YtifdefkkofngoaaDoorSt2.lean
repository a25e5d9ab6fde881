/- Contracts of the tests of states: validity and equality, in the program and in the reference; of the laws' own sizes and marks of states; of copies. Conditions: the lengths are far from Go's bounds. -/
import Derived.Test.YtifdefkkofngoaaDoorSt
namespace Go.Proofs.YtifdefkkofngoaaDoor
open Go.RowKit
set_option linter.unusedVariables false

set_option maxHeartbeats 400000 in
theorem l2Ints_c (A B : Option Addr) (c d : Nat) (l m : List Int) (w : World) (hA : Ints w A l) (hB : Ints w B m) (hn : l.length ≤ 4611686018427387904) (hm : m.length ≤ 4611686018427387904) :
    Calls Tryd.prog 63 #[.slice A l.length c, .slice B m.length d] w fun e w' => e = .returned (.bool (decide (l = m))) ∧ Grow w w' := by
  by_cases hlen : l.length = m.length
  · have HL := Lib.hid hlen
    have hb : ((l.length : Int) != (m.length : Int)) = false := by simp [hlen]
    clear hlen
    go_enter Tryd.func63, Tryd.ntmps63
    go_wp2
    go_loopw [5] (fun i wr => ∃ k : Nat, k ≤ l.length ∧ i = .int .i64 k ∧ l.take k = m.take k ∧ Grow w wr) (fun i _ => l.length - (intOf i).toNat)
    case atStart => exact ⟨0, Nat.zero_le _, rfl, by simp, (by repeat (first | exact Grow.refl _ | assumption | refine Grow.alloc ?_ _ | refine Grow.drew ?_ | refine Grow.drewN ?_ _ | refine Grow.trans ?_ (by assumption) | refine Grow.below ?_ (by assumption) (by first | exact Nat.le_refl _ | omega)))⟩
    case round =>
      obtain ⟨k, hk, rfl, hv, hg⟩ := hrel
      have HV := Lib.hid hv
      clear hv
      by_cases hlt : k < l.length
      · have hlm : k < m.length := by have := HL.out; omega
        obtain ⟨b, off, rfl, c0⟩ := (hA.grow hg).at_ hlt
        obtain ⟨b', off', rfl, d0⟩ := (hB.grow hg).at_ hlm
        clear hb
        by_cases he : l[k] = m[k]
        · have HE := Lib.hid he
          have hb : (l[k] != m[k]) = false := by simp [he]
          clear he
          go_wp2_with fail
          go_quiet (fail)
          go_wp2
          go_roundw
          case rel => exact ⟨k + 1, by omega, by go_num, take_step hlt hlm HE.out HV.out, (by repeat (first | exact Grow.refl _ | assumption | refine Grow.alloc ?_ _ | refine Grow.drew ?_ | refine Grow.drewN ?_ _ | refine Grow.trans ?_ (by assumption) | refine Grow.below ?_ (by assumption) (by first | exact Nat.le_refl _ | omega)))⟩
          case measure => simp [intOf]; omega
        · have HE := Lib.hid he
          have hb : (l[k] != m[k]) = true := by simp [he]
          clear he
          go_wp2_with fail
          go_quiet (fail)
          go_wp2
          go_ret
          exact ⟨by rw [decide_eq_false (list_ne hlt hlm HE.out)]; rfl, (by repeat (first | exact Grow.refl _ | assumption | refine Grow.alloc ?_ _ | refine Grow.drew ?_ | refine Grow.drewN ?_ _ | refine Grow.trans ?_ (by assumption) | refine Grow.below ?_ (by assumption) (by first | exact Nat.le_refl _ | omega)))⟩
      · have H := Lib.hid (show l = m by have h1 := HV.out; have := HL.out; rw [take_eq_all hlt, take_eq_all (by omega)] at h1; exact h1)
        go_wp2
        go_ret
        exact ⟨by rw [decide_eq_true H.out]; rfl, (by repeat (first | exact Grow.refl _ | assumption | refine Grow.alloc ?_ _ | refine Grow.drew ?_ | refine Grow.drewN ?_ _ | refine Grow.trans ?_ (by assumption) | refine Grow.below ?_ (by assumption) (by first | exact Nat.le_refl _ | omega)))⟩
  · have H := Lib.hid (decide_eq_false (fun h : l = m => hlen (by rw [h])))
    have hb : ((l.length : Int) != (m.length : Int)) = true := by simp; omega
    go_enter Tryd.func63, Tryd.ntmps63
    go_wp2
    go_ret
    exact ⟨by rw [H.out]; rfl, (by repeat (first | exact Grow.refl _ | assumption | refine Grow.alloc ?_ _ | refine Grow.drew ?_ | refine Grow.drewN ?_ _ | refine Grow.trans ?_ (by assumption) | refine Grow.below ?_ (by assumption) (by first | exact Nat.le_refl _ | omega)))⟩

set_option maxHeartbeats 400000 in
theorem sameInts_c (A B : Option Addr) (c d : Nat) (l m : List Int) (w : World) (hA : Ints w A l) (hB : Ints w B m) (hn : l.length ≤ 4611686018427387904) (hm : m.length ≤ 4611686018427387904) :
    Calls Tryd.prog 57 #[.slice A l.length c, .slice B m.length d] w fun e w' => e = .returned (.bool (decide (l = m))) ∧ Grow w w' := by
  by_cases hlen : l.length = m.length
  · have HL := Lib.hid hlen
    have hb : ((l.length : Int) != (m.length : Int)) = false := by simp [hlen]
    clear hlen
    go_enter Tryd.func57, Tryd.ntmps57
    go_wp2
    go_loopw [14] (fun i wr => ∃ k : Nat, k ≤ l.length ∧ i = .int .i64 k ∧ l.take k = m.take k ∧ Grow w wr) (fun i _ => l.length - (intOf i).toNat)
    case atStart => exact ⟨0, Nat.zero_le _, rfl, by simp, (by repeat (first | exact Grow.refl _ | assumption | refine Grow.alloc ?_ _ | refine Grow.drew ?_ | refine Grow.drewN ?_ _ | refine Grow.trans ?_ (by assumption) | refine Grow.below ?_ (by assumption) (by first | exact Nat.le_refl _ | omega)))⟩
    case round =>
      obtain ⟨k, hk, rfl, hv, hg⟩ := hrel
      have HV := Lib.hid hv
      clear hv
      by_cases hlt : k < l.length
      · have hlm : k < m.length := by have := HL.out; omega
        obtain ⟨b, off, rfl, c0⟩ := (hA.grow hg).at_ hlt
        obtain ⟨b', off', rfl, d0⟩ := (hB.grow hg).at_ hlm
        clear hb
        by_cases he : l[k] = m[k]
        · have HE := Lib.hid he
          have hb : (l[k] != m[k]) = false := by simp [he]
          clear he
          go_wp2_with fail
          go_roundw
          case rel => exact ⟨k + 1, by omega, by go_num, take_step hlt hlm HE.out HV.out, (by repeat (first | exact Grow.refl _ | assumption | refine Grow.alloc ?_ _ | refine Grow.drew ?_ | refine Grow.drewN ?_ _ | refine Grow.trans ?_ (by assumption) | refine Grow.below ?_ (by assumption) (by first | exact Nat.le_refl _ | omega)))⟩
          case measure => simp [intOf]; omega
        · have HE := Lib.hid he
          have hb : (l[k] != m[k]) = true := by simp [he]
          clear he
          go_wp2_with fail
          go_ret
          exact ⟨by rw [decide_eq_false (list_ne hlt hlm HE.out)]; rfl, (by repeat (first | exact Grow.refl _ | assumption | refine Grow.alloc ?_ _ | refine Grow.drew ?_ | refine Grow.drewN ?_ _ | refine Grow.trans ?_ (by assumption) | refine Grow.below ?_ (by assumption) (by first | exact Nat.le_refl _ | omega)))⟩
      · have H := Lib.hid (show l = m by have h1 := HV.out; have := HL.out; rw [take_eq_all hlt, take_eq_all (by omega)] at h1; exact h1)
        go_wp2
        go_ret
        exact ⟨by rw [decide_eq_true H.out]; rfl, (by repeat (first | exact Grow.refl _ | assumption | refine Grow.alloc ?_ _ | refine Grow.drew ?_ | refine Grow.drewN ?_ _ | refine Grow.trans ?_ (by assumption) | refine Grow.below ?_ (by assumption) (by first | exact Nat.le_refl _ | omega)))⟩
  · have H := Lib.hid (decide_eq_false (fun h : l = m => hlen (by rw [h])))
    have hb : ((l.length : Int) != (m.length : Int)) = true := by simp; omega
    go_enter Tryd.func57, Tryd.ntmps57
    go_wp2
    go_ret
    exact ⟨by rw [H.out]; rfl, (by repeat (first | exact Grow.refl _ | assumption | refine Grow.alloc ?_ _ | refine Grow.drew ?_ | refine Grow.drewN ?_ _ | refine Grow.trans ?_ (by assumption) | refine Grow.below ?_ (by assumption) (by first | exact Nat.le_refl _ | omega)))⟩


theorem StateSame_c (A B A' B' : Option Addr) (c d c' d' : Nat) (s t : Pl.St) (w : World) (hS : Sts w A B s) (hT : Sts w A' B' t) (h1 : s.v.length ≤ 4194304) (h2 : s.h.length ≤ 4194304) (h3 : t.v.length ≤ 4194304) (h4 : t.h.length ≤ 4194304) :
    Calls Tryd.prog 21 #[sval A B c d s, sval A' B' c' d' t] w fun e w' => e = .returned (.bool (decide (s = t))) ∧ Grow w w' := by
  obtain ⟨v, h⟩ := s
  obtain ⟨v', h'⟩ := t
  have hst : decide ((⟨v, h⟩ : Pl.St) = ⟨v', h'⟩) = (decide (v = v') && decide (h = h')) := by rw [Bool.eq_iff_iff]; simp
  have HE := Lib.hid hst
  clear hst
  have y1 := Box2.new w 27 (.slice A v.length c) (.slice B h.length d)
  have y2 := Box2.new (w.alloc (.cells #[.slice A v.length c, .slice B h.length d] 27)) 27 (.slice A' v'.length c') (.slice B' h'.length d')
  simp only [World.size_alloc] at y2
  go_enter Tryd.func21, Tryd.ntmps21
  go_wp2_with fail
  refine (sameInts_c A A' c c' v v' _ (hS.v.grow (by repeat (first | exact Grow.refl _ | assumption | refine Grow.alloc ?_ _ | refine Grow.drew ?_ | refine Grow.drewN ?_ _ | refine Grow.trans ?_ (by assumption) | refine Grow.below ?_ (by assumption) (by first | exact Nat.le_refl _ | omega)))) (hT.v.grow (by repeat (first | exact Grow.refl _ | assumption | refine Grow.alloc ?_ _ | refine Grow.drew ?_ | refine Grow.drewN ?_ _ | refine Grow.trans ?_ (by assumption) | refine Grow.below ?_ (by assumption) (by first | exact Nat.le_refl _ | omega)))) (by omega) (by omega)).mono ?_
  rintro e w1 ⟨rfl, g1⟩
  have y1 := y1.grow (show Grow _ w1 from (by repeat (first | exact Grow.refl _ | assumption | refine Grow.alloc ?_ _ | refine Grow.drew ?_ | refine Grow.drewN ?_ _ | refine Grow.trans ?_ (by assumption) | refine Grow.below ?_ (by assumption) (by first | exact Nat.le_refl _ | omega))))
  have y2 := y2.grow (show Grow _ w1 from (by repeat (first | exact Grow.refl _ | assumption | refine Grow.alloc ?_ _ | refine Grow.drew ?_ | refine Grow.drewN ?_ _ | refine Grow.trans ?_ (by assumption) | refine Grow.below ?_ (by assumption) (by first | exact Nat.le_refl _ | omega))))
  obtain ⟨k0, k1, _, _⟩ := y1.facts
  obtain ⟨q0, q1, _, _⟩ := y2.facts
  by_cases hv : v = v'
  · have HV := Lib.hid (decide_eq_true hv)
    clear hv
    rw [HV.out]
    go_wp2_with fail
    refine (sameInts_c B B' d d' h h' _ (hS.h.grow (by repeat (first | exact Grow.refl _ | assumption | refine Grow.alloc ?_ _ | refine Grow.drew ?_ | refine Grow.drewN ?_ _ | refine Grow.trans ?_ (by assumption) | refine Grow.below ?_ (by assumption) (by first | exact Nat.le_refl _ | omega)))) (hT.h.grow (by repeat (first | exact Grow.refl _ | assumption | refine Grow.alloc ?_ _ | refine Grow.drew ?_ | refine Grow.drewN ?_ _ | refine Grow.trans ?_ (by assumption) | refine Grow.below ?_ (by assumption) (by first | exact Nat.le_refl _ | omega)))) (by omega) (by omega)).mono ?_
    rintro e w2 ⟨rfl, g2⟩
    by_cases hh : h = h'
    · have HH := Lib.hid (decide_eq_true hh)
      clear hh
      rw [HH.out]
      go_wp2_with fail
      go_ret
      exact ⟨by rw [HE.out, HV.out, HH.out]; rfl, (by repeat (first | exact Grow.refl _ | assumption | refine Grow.alloc ?_ _ | refine Grow.drew ?_ | refine Grow.drewN ?_ _ | refine Grow.trans ?_ (by assumption) | refine Grow.below ?_ (by assumption) (by first | exact Nat.le_refl _ | omega)))⟩
    · have HH := Lib.hid (decide_eq_false hh)
      clear hh
      rw [HH.out]
      go_wp2_with fail
      go_ret
      exact ⟨by rw [HE.out, HV.out, HH.out]; rfl, (by repeat (first | exact Grow.refl _ | assumption | refine Grow.alloc ?_ _ | refine Grow.drew ?_ | refine Grow.drewN ?_ _ | refine Grow.trans ?_ (by assumption) | refine Grow.below ?_ (by assumption) (by first | exact Nat.le_refl _ | omega)))⟩
  · have HV := Lib.hid (decide_eq_false hv)
    clear hv
    rw [HV.out]
    go_wp2_with fail
    go_ret
    exact ⟨by rw [HE.out, HV.out]; rfl, (by repeat (first | exact Grow.refl _ | assumption | refine Grow.alloc ?_ _ | refine Grow.drew ?_ | refine Grow.drewN ?_ _ | refine Grow.trans ?_ (by assumption) | refine Grow.below ?_ (by assumption) (by first | exact Nat.le_refl _ | omega)))⟩

theorem sStateSame_c (A B A' B' : Option Addr) (c d c' d' : Nat) (s t : Pl.St) (w : World) (hS : Sts w A B s) (hT : Sts w A' B' t) (h1 : s.v.length ≤ 4194304) (h2 : s.h.length ≤ 4194304) (h3 : t.v.length ≤ 4194304) (h4 : t.h.length ≤ 4194304) :
    Calls Tryd.prog 24 #[sval A B c d s, sval A' B' c' d' t] w fun e w' => e = .returned (.bool (decide (s = t))) ∧ Grow w w' := by
  obtain ⟨v, h⟩ := s
  obtain ⟨v', h'⟩ := t
  have hst : decide ((⟨v, h⟩ : Pl.St) = ⟨v', h'⟩) = (decide (v = v') && decide (h = h')) := by rw [Bool.eq_iff_iff]; simp
  have HE := Lib.hid hst
  clear hst
  have y1 := Box2.new w 27 (.slice A v.length c) (.slice B h.length d)
  have y2 := Box2.new (w.alloc (.cells #[.slice A v.length c, .slice B h.length d] 27)) 27 (.slice A' v'.length c') (.slice B' h'.length d')
  simp only [World.size_alloc] at y2
  go_enter Tryd.func24, Tryd.ntmps24
  go_wp2_with fail
  refine (l2Ints_c A A' c c' v v' _ (hS.v.grow (by repeat (first | exact Grow.refl _ | assumption | refine Grow.alloc ?_ _ | refine Grow.drew ?_ | refine Grow.drewN ?_ _ | refine Grow.trans ?_ (by assumption) | refine Grow.below ?_ (by assumption) (by first | exact Nat.le_refl _ | omega)))) (hT.v.grow (by repeat (first | exact Grow.refl _ | assumption | refine Grow.alloc ?_ _ | refine Grow.drew ?_ | refine Grow.drewN ?_ _ | refine Grow.trans ?_ (by assumption) | refine Grow.below ?_ (by assumption) (by first | exact Nat.le_refl _ | omega)))) (by omega) (by omega)).mono ?_
  rintro e w1 ⟨rfl, g1⟩
  have y1 := y1.grow (show Grow _ w1 from (by repeat (first | exact Grow.refl _ | assumption | refine Grow.alloc ?_ _ | refine Grow.drew ?_ | refine Grow.drewN ?_ _ | refine Grow.trans ?_ (by assumption) | refine Grow.below ?_ (by assumption) (by first | exact Nat.le_refl _ | omega))))
  have y2 := y2.grow (show Grow _ w1 from (by repeat (first | exact Grow.refl _ | assumption | refine Grow.alloc ?_ _ | refine Grow.drew ?_ | refine Grow.drewN ?_ _ | refine Grow.trans ?_ (by assumption) | refine Grow.below ?_ (by assumption) (by first | exact Nat.le_refl _ | omega))))
  obtain ⟨k0, k1, _, _⟩ := y1.facts
  obtain ⟨q0, q1, _, _⟩ := y2.facts
  by_cases hv : v = v'
  · have HV := Lib.hid (decide_eq_true hv)
    clear hv
    rw [HV.out]
    go_wp2_with fail
    refine (l2Ints_c B B' d d' h h' _ (hS.h.grow (by repeat (first | exact Grow.refl _ | assumption | refine Grow.alloc ?_ _ | refine Grow.drew ?_ | refine Grow.drewN ?_ _ | refine Grow.trans ?_ (by assumption) | refine Grow.below ?_ (by assumption) (by first | exact Nat.le_refl _ | omega)))) (hT.h.grow (by repeat (first | exact Grow.refl _ | assumption | refine Grow.alloc ?_ _ | refine Grow.drew ?_ | refine Grow.drewN ?_ _ | refine Grow.trans ?_ (by assumption) | refine Grow.below ?_ (by assumption) (by first | exact Nat.le_refl _ | omega)))) (by omega) (by omega)).mono ?_
    rintro e w2 ⟨rfl, g2⟩
    by_cases hh : h = h'
    · have HH := Lib.hid (decide_eq_true hh)
      clear hh
      rw [HH.out]
      go_wp2_with fail
      go_ret
      exact ⟨by rw [HE.out, HV.out, HH.out]; rfl, (by repeat (first | exact Grow.refl _ | assumption | refine Grow.alloc ?_ _ | refine Grow.drew ?_ | refine Grow.drewN ?_ _ | refine Grow.trans ?_ (by assumption) | refine Grow.below ?_ (by assumption) (by first | exact Nat.le_refl _ | omega)))⟩
    · have HH := Lib.hid (decide_eq_false hh)
      clear hh
      rw [HH.out]
      go_wp2_with fail
      go_ret
      exact ⟨by rw [HE.out, HV.out, HH.out]; rfl, (by repeat (first | exact Grow.refl _ | assumption | refine Grow.alloc ?_ _ | refine Grow.drew ?_ | refine Grow.drewN ?_ _ | refine Grow.trans ?_ (by assumption) | refine Grow.below ?_ (by assumption) (by first | exact Nat.le_refl _ | omega)))⟩
  · have HV := Lib.hid (decide_eq_false hv)
    clear hv
    rw [HV.out]
    go_wp2_with fail
    go_ret
    exact ⟨by rw [HE.out, HV.out]; rfl, (by repeat (first | exact Grow.refl _ | assumption | refine Grow.alloc ?_ _ | refine Grow.drew ?_ | refine Grow.drewN ?_ _ | refine Grow.trans ?_ (by assumption) | refine Grow.below ?_ (by assumption) (by first | exact Nat.le_refl _ | omega)))⟩

theorem szIntS_c (A : Option Addr) (n c : Nat) (left : Int) (w : World) (hn : n ≤ 9223372036854775807) (h0 : 0 ≤ left) (h1 : left ≤ 1048576) :
    Calls Tryd.prog 37 #[.slice A n c, .int .i64 left] w fun e w' => e = .returned (.int .i64 (szv n left)) ∧ w = w' := by
  by_cases h : left - (n : Int) < 0
  · have H := Lib.hid (show szv n left = -1 by unfold szv; rw [if_pos h])
    go_enter Tryd.func37, Tryd.ntmps37
    go_wp2
    go_ret
    exact ⟨by rw [H.out]; rfl, rfl⟩
  · have H := Lib.hid (show szv n left = left - n by unfold szv; rw [if_neg h])
    go_enter Tryd.func37, Tryd.ntmps37
    go_wp2
    go_ret
    exact ⟨by rw [H.out]; rfl, rfl⟩

/-- What is left of a bound behind two lists. -/
def szv2 (n m : Nat) (left : Int) : Int := if left < (n : Int) + m then -1 else left - n - m
theorem szState_c (A B : Option Addr) (n m c d : Nat) (left : Int) (w : World) (hn : n ≤ 9223372036854775807) (hm : m ≤ 9223372036854775807) (h0 : 0 ≤ left) (h1 : left ≤ 1048576) :
    Calls Tryd.prog 9 #[.agg #[.slice A n c, .slice B m d], .int .i64 left] w fun e w' => e = .returned (.int .i64 (szv2 n m left)) ∧ Grow w w' := by
  by_cases ha : left < (n : Int)
  · have H := Lib.hid (show szv2 n m left = -1 by unfold szv2; rw [if_pos (by omega)])
    have HA := Lib.hid (szv_neg ha)
    go_enter Tryd.func9, Tryd.ntmps9
    go_wp2_with fail
    refine (szIntS_c A n c left _ hn h0 h1).mono ?_
    rintro e w1 ⟨rfl, rfl⟩
    rw [HA.out]
    go_wp2_with fail
    go_ret
    exact ⟨by rw [H.out]; rfl, (by repeat (first | exact Grow.refl _ | assumption | refine Grow.alloc ?_ _ | refine Grow.drew ?_ | refine Grow.drewN ?_ _ | refine Grow.trans ?_ (by assumption) | refine Grow.below ?_ (by assumption) (by first | exact Nat.le_refl _ | omega)))⟩
  · have HA := Lib.hid (szv_pos (n := n) (left := left) (by omega))
    by_cases hb : left - (n : Int) < (m : Int)
    · have H := Lib.hid (show szv2 n m left = -1 by unfold szv2; rw [if_pos (by omega)])
      have HB := Lib.hid (szv_neg hb)
      go_enter Tryd.func9, Tryd.ntmps9
      go_wp2_with fail
      refine (szIntS_c A n c left _ hn h0 h1).mono ?_
      rintro e w1 ⟨rfl, rfl⟩
      rw [HA.out]
      go_wp2_with fail
      refine (szIntS_c B m d (left - n) _ hm (by omega) (by omega)).mono ?_
      rintro e w1 ⟨rfl, rfl⟩
      rw [HB.out]
      go_wp2_with fail
      go_ret
      exact ⟨by rw [H.out]; rfl, (by repeat (first | exact Grow.refl _ | assumption | refine Grow.alloc ?_ _ | refine Grow.drew ?_ | refine Grow.drewN ?_ _ | refine Grow.trans ?_ (by assumption) | refine Grow.below ?_ (by assumption) (by first | exact Nat.le_refl _ | omega)))⟩
    · have H := Lib.hid (show szv2 n m left = left - n - m by unfold szv2; rw [if_neg (by omega)])
      have HB := Lib.hid (szv_pos (n := m) (left := left - n) (by omega))
      go_enter Tryd.func9, Tryd.ntmps9
      go_wp2_with fail
      refine (szIntS_c A n c left _ hn h0 h1).mono ?_
      rintro e w1 ⟨rfl, rfl⟩
      rw [HA.out]
      go_wp2_with fail
      refine (szIntS_c B m d (left - n) _ hm (by omega) (by omega)).mono ?_
      rintro e w1 ⟨rfl, rfl⟩
      rw [HB.out]
      go_wp2_with fail
      go_ret
      exact ⟨by rw [H.out]; rfl, (by repeat (first | exact Grow.refl _ | assumption | refine Grow.alloc ?_ _ | refine Grow.drew ?_ | refine Grow.drewN ?_ _ | refine Grow.trans ?_ (by assumption) | refine Grow.below ?_ (by assumption) (by first | exact Nat.le_refl _ | omega)))⟩

end Go.Proofs.YtifdefkkofngoaaDoor
