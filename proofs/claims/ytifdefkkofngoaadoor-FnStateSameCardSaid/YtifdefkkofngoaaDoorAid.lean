/- Contracts of the laws' own helpers over []int and []Fact: copies, equality, sizes, marks. Conditions: the lengths are far from Go's bounds. -/
import Derived.Test.YtifdefkkofngoaaDoorValid
namespace Go.Proofs.YtifdefkkofngoaaDoor
open Go.RowKit
set_option linter.unusedVariables false

def markI (k n : Nat) : List Int := (List.range n).map fun i => ((k + i : Nat) : Int)
theorem markI_len (k n : Nat) : (markI k n).length = n := by simp [markI]
theorem markI_snoc (k n : Nat) : markI k (n + 1) = markI k n ++ [((k + n : Nat) : Int)] := by simp [markI, List.range_succ]
theorem markI_get (k n i : Nat) (h : i < (markI k n).length) : (markI k n)[i] = ((k + i : Nat) : Int) := by simp [markI]
theorem set_mid {α : Type} (P Q : List α) (a u : α) (o : Nat) (ho : o = P.length) : (P ++ a :: Q).set o u = P ++ u :: Q := by
  subst ho; rw [List.set_append_right _ _ (Nat.le_refl _), Nat.sub_self]; rfl


theorem eqFact_c (f g : Pl.Fct) (w : World) : Calls Tryd.prog 101 #[fval f, fval g] w fun e w' => e = .returned (.bool (decide (f = g))) ∧ Grow w w' := by
  obtain ⟨x, a, b⟩ := f
  obtain ⟨y, c, d⟩ := g
  by_cases h : (⟨x, a, b⟩ : Pl.Fct) = ⟨y, c, d⟩
  · obtain ⟨rfl, rfl, rfl⟩ : x = y ∧ a = c ∧ b = d := by simpa using h
    go_enter Tryd.func101, Tryd.ntmps101
    go_wp2
    go_ret
    exact ⟨by simp, (by repeat (first | exact Grow.refl _ | assumption | refine Grow.alloc ?_ _ | refine Grow.drew ?_ | refine Grow.drewN ?_ _ | refine Grow.trans ?_ (by assumption) | refine Grow.below ?_ (by assumption) (by first | exact Nat.le_refl _ | omega)))⟩
  · have H := Lib.hid (decide_eq_false h)
    go_enter Tryd.func101, Tryd.ntmps101
    go_wp2
    · go_ret; exact ⟨by rw [H.out]; rfl, (by repeat (first | exact Grow.refl _ | assumption | refine Grow.alloc ?_ _ | refine Grow.drew ?_ | refine Grow.drewN ?_ _ | refine Grow.trans ?_ (by assumption) | refine Grow.below ?_ (by assumption) (by first | exact Nat.le_refl _ | omega)))⟩
    · go_ret; exact ⟨by rw [H.out]; rfl, (by repeat (first | exact Grow.refl _ | assumption | refine Grow.alloc ?_ _ | refine Grow.drew ?_ | refine Grow.drewN ?_ _ | refine Grow.trans ?_ (by assumption) | refine Grow.below ?_ (by assumption) (by first | exact Nat.le_refl _ | omega)))⟩
    · go_ret; exact ⟨by rw [H.out]; rfl, (by repeat (first | exact Grow.refl _ | assumption | refine Grow.alloc ?_ _ | refine Grow.drew ?_ | refine Grow.drewN ?_ _ | refine Grow.trans ?_ (by assumption) | refine Grow.below ?_ (by assumption) (by first | exact Nat.le_refl _ | omega)))⟩
    · exact absurd (by simp_all) h

theorem list_ne {α : Type} {l m : List α} {k : Nat} (h : k < l.length) (h' : k < m.length) (hne : l[k] ≠ m[k]) : l ≠ m := by rintro rfl; exact hne rfl
theorem take_step {α : Type} {l m : List α} {k : Nat} (h : k < l.length) (h' : k < m.length) (he : l[k] = m[k]) (ht : l.take k = m.take k) : l.take (k + 1) = m.take (k + 1) := by
  rw [take_snoc l k h, take_snoc m k h', ht, he]

set_option maxRecDepth 4000 in
set_option maxHeartbeats 400000 in
theorem eqFactS_c (A B : Option Addr) (c d : Nat) (l m : List Pl.Fct) (w : World) (hA : Facts w A l) (hB : Facts w B m) (hn : l.length ≤ 4611686018427387904) (hm : m.length ≤ 4611686018427387904) :
    Calls Tryd.prog 68 #[.slice A l.length c, .slice B m.length d] w fun e w' => e = .returned (.bool (decide (l = m))) ∧ Grow w w' := by
  by_cases hlen : l.length = m.length
  · have HL := Lib.hid hlen
    have hb : ((l.length : Int) != (m.length : Int)) = false := by simp [hlen]
    clear hlen
    go_enter Tryd.func68, Tryd.ntmps68
    go_wp2
    go_loopw [5] (fun i wr => ∃ k : Nat, k ≤ l.length ∧ i = .int .i64 k ∧ l.take k = m.take k ∧ Grow w wr) (fun i _ => l.length - (intOf i).toNat)
    case atStart => exact ⟨0, Nat.zero_le _, rfl, by simp, (by repeat (first | exact Grow.refl _ | assumption | refine Grow.alloc ?_ _ | refine Grow.drew ?_ | refine Grow.drewN ?_ _ | refine Grow.trans ?_ (by assumption) | refine Grow.below ?_ (by assumption) (by first | exact Nat.le_refl _ | omega)))⟩
    case round =>
      obtain ⟨k, hk, rfl, hv, hg⟩ := hrel
      have HV := Lib.hid hv
      clear hv
      by_cases hlt : k < l.length
      · have hlm : k < m.length := by have := HL.out; omega
        obtain ⟨b, off, rfl, c0, c1, c2⟩ := (hA.grow hg).at_ hlt
        obtain ⟨b', off', rfl, d0, d1, d2⟩ := (hB.grow hg).at_ hlm
        clear hb
        by_cases he : l[k] = m[k]
        · have HE := Lib.hid he
          clear he
          go_wp2_with fail
          go_still_tail 8, mixed
          change wpList _ _ _ _ _ wr.drew
          go_wp2_with (go_at_call 101; refine (eqFact_c l[k] m[k] _).mono ?_; rintro e w' ⟨rfl, hg1⟩; rw [decide_eq_true HE.out])
          go_roundw
          case rel => exact ⟨k + 1, by omega, by go_num, take_step hlt hlm HE.out HV.out, (by repeat (first | exact Grow.refl _ | assumption | refine Grow.alloc ?_ _ | refine Grow.drew ?_ | refine Grow.drewN ?_ _ | refine Grow.trans ?_ (by assumption) | refine Grow.below ?_ (by assumption) (by first | exact Nat.le_refl _ | omega)))⟩
          case measure => simp [intOf]; omega
        · have HE := Lib.hid he
          clear he
          go_wp2_with fail
          go_still_tail 8, mixed
          change wpList _ _ _ _ _ wr.drew
          go_wp2_with (go_at_call 101; refine (eqFact_c l[k] m[k] _).mono ?_; rintro e w' ⟨rfl, hg1⟩; rw [decide_eq_false HE.out])
          go_ret
          exact ⟨by rw [decide_eq_false (list_ne hlt hlm HE.out)]; rfl, (by repeat (first | exact Grow.refl _ | assumption | refine Grow.alloc ?_ _ | refine Grow.drew ?_ | refine Grow.drewN ?_ _ | refine Grow.trans ?_ (by assumption) | refine Grow.below ?_ (by assumption) (by first | exact Nat.le_refl _ | omega)))⟩
      · have H := Lib.hid (show l = m by have h1 := HV.out; have := HL.out; rw [take_eq_all hlt, take_eq_all (by omega)] at h1; exact h1)
        go_wp2
        go_ret
        exact ⟨by rw [decide_eq_true H.out]; rfl, (by repeat (first | exact Grow.refl _ | assumption | refine Grow.alloc ?_ _ | refine Grow.drew ?_ | refine Grow.drewN ?_ _ | refine Grow.trans ?_ (by assumption) | refine Grow.below ?_ (by assumption) (by first | exact Nat.le_refl _ | omega)))⟩
  · have H := Lib.hid (decide_eq_false (fun h : l = m => hlen (by rw [h])))
    have hb : ((l.length : Int) != (m.length : Int)) = true := by simp; omega
    go_enter Tryd.func68, Tryd.ntmps68
    go_wp2
    go_ret
    exact ⟨by rw [H.out]; rfl, (by repeat (first | exact Grow.refl _ | assumption | refine Grow.alloc ?_ _ | refine Grow.drew ?_ | refine Grow.drewN ?_ _ | refine Grow.trans ?_ (by assumption) | refine Grow.below ?_ (by assumption) (by first | exact Nat.le_refl _ | omega)))⟩

set_option maxHeartbeats 400000 in
theorem eqIntS_c (A B : Option Addr) (c d : Nat) (l m : List Int) (w : World) (hA : Ints w A l) (hB : Ints w B m) (hn : l.length ≤ 4611686018427387904) (hm : m.length ≤ 4611686018427387904) :
    Calls Tryd.prog 44 #[.slice A l.length c, .slice B m.length d] w fun e w' => e = .returned (.bool (decide (l = m))) ∧ Grow w w' := by
  by_cases hlen : l.length = m.length
  · have HL := Lib.hid hlen
    have hb : ((l.length : Int) != (m.length : Int)) = false := by simp [hlen]
    clear hlen
    go_enter Tryd.func44, Tryd.ntmps44
    go_wp2
    go_loopw [5] (fun i wr => ∃ k : Nat, k ≤ l.length ∧ i = .int .i64 k ∧ l.take k = m.take k ∧ Grow w wr) (fun i _ => l.length - (intOf i).toNat)
    case atStart => exact ⟨0, Nat.zero_le _, rfl, by simp, (by repeat (first | exact Grow.refl _ | assumption | refine Grow.alloc ?_ _ | refine Grow.drew ?_ | refine Grow.drewN ?_ _ | refine Grow.trans ?_ (by assumption) | refine Grow.below ?_ (by assumption) (by first | exact Nat.le_refl _ | omega)))⟩
    case round =>
      obtain ⟨k, hk, rfl, hv, hg⟩ := hrel
      have HV := Lib.hid hv
      clear hv
      by_cases hlt : k < l.length
      · have hlm : k < m.length := by have := HL.out; omega
        obtain ⟨b, off, rfl, c0⟩ := (hA.grow hg).at_ hlt
        obtain ⟨b', off', rfl, d0⟩ := (hB.grow hg).at_ hlm
        clear hb
        by_cases he : l[k] = m[k]
        · have HE := Lib.hid he
          have hb : (l[k] != m[k]) = false := by simp [he]
          clear he
          go_wp2_with fail
          go_quiet (fail)
          go_wp2
          go_roundw
          case rel => exact ⟨k + 1, by omega, by go_num, take_step hlt hlm HE.out HV.out, (by repeat (first | exact Grow.refl _ | assumption | refine Grow.alloc ?_ _ | refine Grow.drew ?_ | refine Grow.drewN ?_ _ | refine Grow.trans ?_ (by assumption) | refine Grow.below ?_ (by assumption) (by first | exact Nat.le_refl _ | omega)))⟩
          case measure => simp [intOf]; omega
        · have HE := Lib.hid he
          have hb : (l[k] != m[k]) = true := by simp [he]
          clear he
          go_wp2_with fail
          go_quiet (fail)
          go_wp2
          go_ret
          exact ⟨by rw [decide_eq_false (list_ne hlt hlm HE.out)]; rfl, (by repeat (first | exact Grow.refl _ | assumption | refine Grow.alloc ?_ _ | refine Grow.drew ?_ | refine Grow.drewN ?_ _ | refine Grow.trans ?_ (by assumption) | refine Grow.below ?_ (by assumption) (by first | exact Nat.le_refl _ | omega)))⟩
      · have H := Lib.hid (show l = m by have h1 := HV.out; have := HL.out; rw [take_eq_all hlt, take_eq_all (by omega)] at h1; exact h1)
        go_wp2
        go_ret
        exact ⟨by rw [decide_eq_true H.out]; rfl, (by repeat (first | exact Grow.refl _ | assumption | refine Grow.alloc ?_ _ | refine Grow.drew ?_ | refine Grow.drewN ?_ _ | refine Grow.trans ?_ (by assumption) | refine Grow.below ?_ (by assumption) (by first | exact Nat.le_refl _ | omega)))⟩
  · have H := Lib.hid (decide_eq_false (fun h : l = m => hlen (by rw [h])))
    have hb : ((l.length : Int) != (m.length : Int)) = true := by simp; omega
    go_enter Tryd.func44, Tryd.ntmps44
    go_wp2
    go_ret
    exact ⟨by rw [H.out]; rfl, (by repeat (first | exact Grow.refl _ | assumption | refine Grow.alloc ?_ _ | refine Grow.drew ?_ | refine Grow.drewN ?_ _ | refine Grow.trans ?_ (by assumption) | refine Grow.below ?_ (by assumption) (by first | exact Nat.le_refl _ | omega)))⟩

/-- What is left of a bound behind a list. -/
def szv (n : Nat) (left : Int) : Int := if left - n < 0 then -1 else left - n
theorem szv_neg {n : Nat} {left : Int} (h : left < n) : szv n left = -1 := by unfold szv; rw [if_pos (by omega)]
theorem szv_pos {n : Nat} {left : Int} (h : (n : Int) ≤ left) : szv n left = left - n := by unfold szv; rw [if_neg (by omega)]

theorem toIntS_c (A : Option Addr) (c : Nat) (l : List Int) (w : World) (hA : Ints w A l) (hn : l.length ≤ 1048576) :
    Calls Tryd.prog 40 #[.slice A l.length c] w fun e w' => ∃ A' c', e = .returned (.slice A' l.length c') ∧ OInts w' w.heap.size (.slice A' l.length c') l ∧ Grow w w' := by
  obtain ⟨i0, hi, hz0, hz1, hz2⟩ := info_parts int_info
  have hmk := fun W => run_make_rows (P := Tryd.prog) 22 3 i0 _ Tryd.underlying22 hi hz0 .i64 .i64 l.length l.length (Nat.le_refl _) (by rw [hz2]; omega) (by omega) W
  rw [hz1] at hmk
  go_enter Tryd.func40, Tryd.ntmps40
  go_wp2
  clear hmk
  go_loopw [4] (fun i wr => ∃ k : Nat, k ≤ l.length ∧ i = .int .i64 k ∧ Grow w wr ∧ Part wr w.heap.size 3 1 l.length ((l.take k).map (.int .i64))) (fun i _ => l.length - (intOf i).toNat)
  case atStart => exact ⟨0, Nat.zero_le _, rfl, (by repeat (first | exact Grow.refl _ | assumption | refine Grow.alloc ?_ _ | refine Grow.drew ?_ | refine Grow.drewN ?_ _ | refine Grow.trans ?_ (by assumption) | refine Grow.below ?_ (by assumption) (by first | exact Nat.le_refl _ | omega))), Part.made _ _ _ _ _ (by rw [size_madeCells, Nat.mul_one])⟩
  case round =>
    obtain ⟨k, hk, rfl, hg, hp⟩ := hrel
    by_cases hlt : k < l.length
    · obtain ⟨b, off, rfl, c0⟩ := (hA.grow hg).at_ hlt
      have hlen : ((l.take k).map (Value.int .i64)).length = k := by rw [List.length_map, List.length_take]; omega
      have HLen := Lib.hid hlen
      clear hlen
      obtain ⟨x0, k0⟩ := hp.cell (o := k) (by omega)
      have f0 := hp.frozen k
      go_wp2
      go_roundw
      case rel =>
        refine ⟨k + 1, by omega, by go_num, (hg.setCell (Nat.le_refl _) _), ?_⟩
        have h1 := hp.step (o := k) (by rw [HLen.out]) (by omega) (.int .i64 l[k])
        rw [take_snoc l k hlt, List.map_append]
        exact h1
      case measure => simp [intOf]; omega
    · have H := Lib.hid (take_eq_all hlt)
      go_wp2
      go_ret
      refine ⟨_, _, rfl, ?_, (by repeat (first | exact Grow.refl _ | assumption | refine Grow.alloc ?_ _ | refine Grow.drew ?_ | refine Grow.drewN ?_ _ | refine Grow.trans ?_ (by assumption) | refine Grow.below ?_ (by assumption) (by first | exact Nat.le_refl _ | omega)))⟩
      rw [H.out] at hp
      exact hp.full (by simp) (Nat.le_refl _) (by unfold maxLen; omega)

end Go.Proofs.YtifdefkkofngoaaDoor
