/- Contracts of the laws' own helpers over []int and []Fact: copies, equality, sizes, marks. Conditions: the lengths are far from Go's bounds. -/
import Derived.Test.YtagihhainhdhfaaValid
namespace Go.Proofs.Ytagihhainhdhfaa
open Go.RowKit
set_option linter.unusedVariables false

def markI (k n : Nat) : List Int := (List.range n).map fun i => ((k + i : Nat) : Int)
theorem markI_len (k n : Nat) : (markI k n).length = n := by simp [markI]
theorem markI_snoc (k n : Nat) : markI k (n + 1) = markI k n ++ [((k + n : Nat) : Int)] := by simp [markI, List.range_succ]
theorem markI_get (k n i : Nat) (h : i < (markI k n).length) : (markI k n)[i] = ((k + i : Nat) : Int) := by simp [markI]
theorem set_mid {α : Type} (P Q : List α) (a u : α) (o : Nat) (ho : o = P.length) : (P ++ a :: Q).set o u = P ++ u :: Q := by
  subst ho; rw [List.set_append_right _ _ (Nat.le_refl _), Nat.sub_self]; rfl

theorem list_ne {α : Type} {l m : List α} {k : Nat} (h : k < l.length) (h' : k < m.length) (hne : l[k] ≠ m[k]) : l ≠ m := by rintro rfl; exact hne rfl
theorem take_step {α : Type} {l m : List α} {k : Nat} (h : k < l.length) (h' : k < m.length) (he : l[k] = m[k]) (ht : l.take k = m.take k) : l.take (k + 1) = m.take (k + 1) := by
  rw [take_snoc l k h, take_snoc m k h', ht, he]

set_option maxHeartbeats 400000 in
theorem slInts_c (A B : Option Addr) (c d : Nat) (l m : List Int) (w : World) (hA : Ints w A l) (hB : Ints w B m) (hn : l.length ≤ 4611686018427387904) (hm : m.length ≤ 4611686018427387904) :
    Calls Try.prog 24 #[.slice A l.length c, .slice B m.length d] w fun e w' => e = .returned (.bool (decide (l = m))) ∧ Grow w w' := by
  by_cases hlen : l.length = m.length
  · have HL := Lib.hid hlen
    have hb : ((l.length : Int) != (m.length : Int)) = false := by simp [hlen]
    clear hlen
    go_enter Try.func24, Try.ntmps24
    go_wp2
    go_loopw [5] (fun i wr => ∃ k : Nat, k ≤ l.length ∧ i = .int .i64 k ∧ l.take k = m.take k ∧ Grow w wr) (fun i _ => l.length - (intOf i).toNat)
    case atStart => exact ⟨0, Nat.zero_le _, rfl, by simp, (by repeat (first | exact Grow.refl _ | assumption | refine Grow.alloc ?_ _ | refine Grow.drew ?_ | refine Grow.drewN ?_ _ | refine Grow.trans ?_ (by assumption) | refine Grow.below ?_ (by assumption) (by first | exact Nat.le_refl _ | omega)))⟩
    case round =>
      obtain ⟨k, hk, rfl, hv, hg⟩ := hrel
      have HV := Lib.hid hv
      clear hv
      by_cases hlt : k < l.length
      · have hlm : k < m.length := by have := HL.out; omega
        obtain ⟨b, off, rfl, c0⟩ := (hA.grow hg).at_ hlt
        obtain ⟨b', off', rfl, d0⟩ := (hB.grow hg).at_ hlm
        clear hb
        by_cases he : l[k] = m[k]
        · have HE := Lib.hid he
          have hb : (l[k] != m[k]) = false := by simp [he]
          clear he
          go_wp2_with fail
          go_quiet (fail)
          go_wp2
          go_roundw
          case rel => exact ⟨k + 1, by omega, by go_num, take_step hlt hlm HE.out HV.out, (by repeat (first | exact Grow.refl _ | assumption | refine Grow.alloc ?_ _ | refine Grow.drew ?_ | refine Grow.drewN ?_ _ | refine Grow.trans ?_ (by assumption) | refine Grow.below ?_ (by assumption) (by first | exact Nat.le_refl _ | omega)))⟩
          case measure => simp [intOf]; omega
        · have HE := Lib.hid he
          have hb : (l[k] != m[k]) = true := by simp [he]
          clear he
          go_wp2_with fail
          go_quiet (fail)
          go_wp2
          go_ret
          exact ⟨by rw [decide_eq_false (list_ne hlt hlm HE.out)]; rfl, (by repeat (first | exact Grow.refl _ | assumption | refine Grow.alloc ?_ _ | refine Grow.drew ?_ | refine Grow.drewN ?_ _ | refine Grow.trans ?_ (by assumption) | refine Grow.below ?_ (by assumption) (by first | exact Nat.le_refl _ | omega)))⟩
      · have H := Lib.hid (show l = m by have h1 := HV.out; have := HL.out; rw [take_eq_all hlt, take_eq_all (by omega)] at h1; exact h1)
        go_wp2
        go_ret
        exact ⟨by rw [decide_eq_true H.out]; rfl, (by repeat (first | exact Grow.refl _ | assumption | refine Grow.alloc ?_ _ | refine Grow.drew ?_ | refine Grow.drewN ?_ _ | refine Grow.trans ?_ (by assumption) | refine Grow.below ?_ (by assumption) (by first | exact Nat.le_refl _ | omega)))⟩
  · have H := Lib.hid (decide_eq_false (fun h : l = m => hlen (by rw [h])))
    have hb : ((l.length : Int) != (m.length : Int)) = true := by simp; omega
    go_enter Try.func24, Try.ntmps24
    go_wp2
    go_ret
    exact ⟨by rw [H.out]; rfl, (by repeat (first | exact Grow.refl _ | assumption | refine Grow.alloc ?_ _ | refine Grow.drew ?_ | refine Grow.drewN ?_ _ | refine Grow.trans ?_ (by assumption) | refine Grow.below ?_ (by assumption) (by first | exact Nat.le_refl _ | omega)))⟩

/-- What is left of a bound behind a list. -/
def szv (n : Nat) (left : Int) : Int := if left - n < 0 then -1 else left - n
theorem szv_neg {n : Nat} {left : Int} (h : left < n) : szv n left = -1 := by unfold szv; rw [if_pos (by omega)]
theorem szv_pos {n : Nat} {left : Int} (h : (n : Int) ≤ left) : szv n left = left - n := by unfold szv; rw [if_neg (by omega)]

end Go.Proofs.Ytagihhainhdhfaa
