/- The plain mathematics of states: values of terms, cells, ways, with no program in sight. No conditions. -/
import Derived.Test.YtinnopkeoohgeaaDoorPlainFacts
namespace Go.Proofs.YtinnopkeoohgeaaDoor.Pl

/-- A state: the values of the terms from 1 on, the contents of the addresses from 1 on. -/
structure St where
  v : List Int
  h : List Int
deriving DecidableEq

def vlB (n : Int) : Bool := decide (0 ≤ n ∧ n ≤ 8)
def adB (n : Int) : Bool := decide (1 ≤ n ∧ n ≤ 8)
def clB (n : Int) : Bool := decide (-1 ≤ n ∧ n ≤ 8)
theorem vlB_iff (n : Int) : vlB n = true ↔ 0 ≤ n ∧ n ≤ 8 := by unfold vlB; exact decide_eq_true_iff
theorem adB_iff (n : Int) : adB n = true ↔ 1 ≤ n ∧ n ≤ 8 := by unfold adB; exact decide_eq_true_iff
theorem clB_iff (n : Int) : clB n = true ↔ -1 ≤ n ∧ n ≤ 8 := by unfold clB; exact decide_eq_true_iff
def stv (s : St) : Bool := decide (s.v.length = 8) && decide (s.h.length = 8) && s.v.all vlB && s.h.all clB
theorem stv_iff (s : St) : stv s = true ↔ (s.v.length = 8 ∧ s.h.length = 8) ∧ (∀ n ∈ s.v, vlB n = true) ∧ ∀ n ∈ s.h, clB n = true := by
  unfold stv; rw [Bool.and_eq_true, Bool.and_eq_true, Bool.and_eq_true, decide_eq_true_iff, decide_eq_true_iff, List.all_eq_true, List.all_eq_true]
  constructor
  · rintro ⟨⟨⟨a, b⟩, c⟩, d⟩; exact ⟨⟨a, b⟩, c, d⟩
  · rintro ⟨⟨a, b⟩, c, d⟩; exact ⟨⟨⟨a, b⟩, c⟩, d⟩
abbrev emp : St := ⟨[], []⟩

/-- The content of a cell, as a number; -1 where there is no such address. -/
def cont (h : List Int) (a : Int) : Int := if adB a then h.getD (a - 1).toNat 0 else -1
def hasB (h : List Int) (a : Int) : Bool := decide (0 ≤ cont h a)
theorem hasB_iff (h : List Int) (a : Int) : hasB h a = true ↔ 0 ≤ cont h a := by unfold hasB; exact decide_eq_true_iff
theorem hasB_false (h : List Int) (a : Int) : hasB h a = false ↔ cont h a < 0 := by unfold hasB; rw [decide_eq_false_iff_not]; omega
theorem cont_out {h : List Int} {a : Int} (k : adB a = false) : cont h a = -1 := by unfold cont; rw [k]; rfl
theorem cont_in {h : List Int} {n : Nat} (hn : n < h.length) (h8 : h.length = 8) : cont h ((n : Int) + 1) = h[n] := by
  unfold cont; rw [if_pos ((adB_iff _).2 (by omega)), show ((n : Int) + 1 - 1).toNat = n from by omega, List.getD_eq_getElem?_getD, List.getElem?_eq_getElem hn]; rfl
theorem has_ad {h : List Int} {a : Int} (k : hasB h a = true) : 1 ≤ a ∧ a ≤ 8 := by
  rw [hasB_iff] at k; unfold cont at k; rw [← adB_iff]
  cases hh : adB a with
  | true => rfl
  | false => rw [hh] at k; simp at k
theorem cont_set {h : List Int} {a b x : Int} (h8 : h.length = 8) (ha : 1 ≤ a ∧ a ≤ 8) : cont (h.set (a - 1).toNat x) b = if b = a then x else cont h b := by
  unfold cont
  cases hb : adB b with
  | false =>
    have hne : b ≠ a := by rintro rfl; rw [(adB_iff _).2 ha] at hb; cases hb
    rw [if_neg hne]; rfl
  | true =>
    have := (adB_iff _).1 hb
    rw [if_pos rfl, if_pos rfl, List.getD_eq_getElem?_getD, List.getD_eq_getElem?_getD, List.getElem?_set]
    by_cases e : b = a
    · subst e; rw [if_pos rfl, if_pos rfl, if_pos (by omega)]; rfl
    · rw [if_neg e, if_neg (by omega)]

/-- What the operations return. -/
def valueOf (s : St) (t : Int) : Int × Bool := if stv s && tmB t then (tval s.v t, true) else (0, false)
def setT (s : St) (t x : Int) : St × Bool := if stv s && tmB t && !decide (t = 0) && vlB x then (⟨s.v.set (t - 1).toNat x, s.h⟩, true) else (emp, false)
def readC (s : St) (a : Int) : Int × Bool := if stv s && hasB s.h a then (cont s.h a, true) else (0, false)
def writeC (s : St) (a x : Int) : St × Bool := if stv s && hasB s.h a && vlB x then (⟨s.v, s.h.set (a - 1).toNat x⟩, true) else (emp, false)
def freeC (s : St) (a : Int) : St × Bool := if stv s && hasB s.h a then (⟨s.v, s.h.set (a - 1).toNat (-1)⟩, true) else (emp, false)

/-- The least free address. -/
def isFree (h : List Int) (n : Nat) : Prop := (1 ≤ n ∧ n ≤ 8) ∧ (∀ i : Nat, 1 ≤ i → i < n → hasB h (i : Int) = true) ∧ hasB h (n : Int) = false
def isFull (h : List Int) : Prop := ∀ i : Nat, 1 ≤ i → i ≤ 8 → hasB h (i : Int) = true
def afree (h : List Int) : Option Nat := [1, 2, 3, 4, 5, 6, 7, 8].find? fun n : Nat => !hasB h (n : Int)
theorem free_or (h : List Int) : (∃ n, isFree h n) ∨ isFull h := by
  have aux : ∀ k : Nat, (∃ n, (1 ≤ n ∧ n ≤ k) ∧ (∀ i : Nat, 1 ≤ i → i < n → hasB h (i : Int) = true) ∧ hasB h (n : Int) = false) ∨ ∀ i : Nat, 1 ≤ i → i ≤ k → hasB h (i : Int) = true := by
    intro k
    induction k with
    | zero => right; intro i h1 h2; omega
    | succ k ih =>
      rcases ih with ⟨n, h1, h2, h3⟩ | ih
      · exact .inl ⟨n, ⟨h1.1, by omega⟩, h2, h3⟩
      · cases hk : hasB h ((k + 1 : Nat) : Int) with
        | false => exact .inl ⟨k + 1, ⟨by omega, by omega⟩, fun i h1 h2 => ih i h1 (by omega), hk⟩
        | true =>
          right; intro i h1 h2
          by_cases e : i = k + 1
          · subst e; exact hk
          · exact ih i h1 (by omega)
  exact aux 8
theorem afree_some {h : List Int} {n : Nat} (k : isFree h n) : afree h = some n := by
  obtain ⟨⟨k1, k2⟩, kl, kn⟩ := k
  unfold afree
  rcases (show n = 1 ∨ n = 2 ∨ n = 3 ∨ n = 4 ∨ n = 5 ∨ n = 6 ∨ n = 7 ∨ n = 8 from by omega) with rfl | rfl | rfl | rfl | rfl | rfl | rfl | rfl
  · have e1 : hasB h 1 = false := kn
    simp [List.find?, e1]
  · have e2 : hasB h 2 = false := kn
    have e1 : hasB h 1 = true := kl 1 (by omega) (by omega)
    simp [List.find?, e1, e2]
  · have e3 : hasB h 3 = false := kn
    have e1 : hasB h 1 = true := kl 1 (by omega) (by omega)
    have e2 : hasB h 2 = true := kl 2 (by omega) (by omega)
    simp [List.find?, e1, e2, e3]
  · have e4 : hasB h 4 = false := kn
    have e1 : hasB h 1 = true := kl 1 (by omega) (by omega)
    have e2 : hasB h 2 = true := kl 2 (by omega) (by omega)
    have e3 : hasB h 3 = true := kl 3 (by omega) (by omega)
    simp [List.find?, e1, e2, e3, e4]
  · have e5 : hasB h 5 = false := kn
    have e1 : hasB h 1 = true := kl 1 (by omega) (by omega)
    have e2 : hasB h 2 = true := kl 2 (by omega) (by omega)
    have e3 : hasB h 3 = true := kl 3 (by omega) (by omega)
    have e4 : hasB h 4 = true := kl 4 (by omega) (by omega)
    simp [List.find?, e1, e2, e3, e4, e5]
  · have e6 : hasB h 6 = false := kn
    have e1 : hasB h 1 = true := kl 1 (by omega) (by omega)
    have e2 : hasB h 2 = true := kl 2 (by omega) (by omega)
    have e3 : hasB h 3 = true := kl 3 (by omega) (by omega)
    have e4 : hasB h 4 = true := kl 4 (by omega) (by omega)
    have e5 : hasB h 5 = true := kl 5 (by omega) (by omega)
    simp [List.find?, e1, e2, e3, e4, e5, e6]
  · have e7 : hasB h 7 = false := kn
    have e1 : hasB h 1 = true := kl 1 (by omega) (by omega)
    have e2 : hasB h 2 = true := kl 2 (by omega) (by omega)
    have e3 : hasB h 3 = true := kl 3 (by omega) (by omega)
    have e4 : hasB h 4 = true := kl 4 (by omega) (by omega)
    have e5 : hasB h 5 = true := kl 5 (by omega) (by omega)
    have e6 : hasB h 6 = true := kl 6 (by omega) (by omega)
    simp [List.find?, e1, e2, e3, e4, e5, e6, e7]
  · have e8 : hasB h 8 = false := kn
    have e1 : hasB h 1 = true := kl 1 (by omega) (by omega)
    have e2 : hasB h 2 = true := kl 2 (by omega) (by omega)
    have e3 : hasB h 3 = true := kl 3 (by omega) (by omega)
    have e4 : hasB h 4 = true := kl 4 (by omega) (by omega)
    have e5 : hasB h 5 = true := kl 5 (by omega) (by omega)
    have e6 : hasB h 6 = true := kl 6 (by omega) (by omega)
    have e7 : hasB h 7 = true := kl 7 (by omega) (by omega)
    simp [List.find?, e1, e2, e3, e4, e5, e6, e7, e8]
theorem afree_none {h : List Int} (k : isFull h) : afree h = none := by
  unfold afree
  rw [List.find?_eq_none]
  intro x hx
  have : 1 ≤ x ∧ x ≤ 8 := by simp at hx; omega
  rw [k x this.1 this.2]; simp
def allocC (s : St) : St × Int × Bool := if stv s then (match afree s.h with | some n => (⟨s.v, s.h.set (n - 1) 0⟩, (n : Int), true) | none => (emp, 0, false)) else (emp, 0, false)

/-- The allocated addresses among the first k. -/
def usedTo (h : List Int) : Nat → List Int
  | 0 => []
  | k + 1 => usedTo h k ++ if hasB h ((k : Int) + 1) then [(k : Int) + 1] else []
def usedC (s : St) : List Int := if stv s then usedTo s.h 8 else []
theorem usedTo_len (h : List Int) (k : Nat) : (usedTo h k).length ≤ k := by
  induction k with
  | zero => simp [usedTo]
  | succ k ih => unfold usedTo; rw [List.length_append]; split <;> simp <;> omega
theorem mem_usedTo {h : List Int} {k : Nat} {x : Int} : x ∈ usedTo h k ↔ (1 ≤ x ∧ x ≤ k) ∧ hasB h x = true := by
  induction k with
  | zero => simp [usedTo]; intro h1 h2; omega
  | succ k ih =>
    unfold usedTo
    rw [List.mem_append, ih]
    cases hk : hasB h ((k : Int) + 1) with
    | true =>
      simp
      constructor
      · rintro (⟨⟨a, b⟩, c⟩ | rfl)
        · exact ⟨⟨a, by omega⟩, c⟩
        · exact ⟨⟨by omega, by omega⟩, hk⟩
      · rintro ⟨⟨a, b⟩, c⟩
        by_cases e : x = k + 1
        · exact .inr e
        · exact .inl ⟨⟨a, by omega⟩, c⟩
    | false =>
      rw [if_neg (by simp)]; simp only [List.mem_nil_iff, or_false]
      constructor
      · rintro ⟨⟨a, b⟩, c⟩; exact ⟨⟨a, by omega⟩, c⟩
      · rintro ⟨⟨a, b⟩, c⟩
        refine ⟨⟨a, ?_⟩, c⟩
        by_cases e : x = k + 1
        · subst e; rw [hk] at c; cases c
        · omega
theorem usedC_len (s : St) : (usedC s).length ≤ 8 := by
  unfold usedC; split
  · exact usedTo_len _ _
  · simp
theorem mem_usedC {s : St} {x : Int} (hs : stv s = true) : x ∈ usedC s ↔ hasB s.h x = true := by
  unfold usedC; rw [if_pos hs, mem_usedTo]
  exact ⟨fun h => h.2, fun h => ⟨has_ad h, h⟩⟩

/-- The way from an address to another one, of at most so many cells. -/
def way (h : List Int) : Nat → Int → Int → Option (List Int)
  | 0, a, b => if a = b then some [] else none
  | k + 1, a, b => if a = b then some [] else if hasB h a then (way h k (cont h a) b).map (a :: ·) else none
def walkC (s : St) (a b : Int) : List Int × Bool := if stv s && vlB a && vlB b then (match way s.h 8 a b with | some l => (l, true) | none => ([], false)) else ([], false)
theorem way_len {h : List Int} {k : Nat} : ∀ {a b : Int} {l : List Int}, way h k a b = some l → l.length ≤ k := by
  induction k with
  | zero =>
    intro a b l hw; unfold way at hw
    split at hw
    · injection hw with hw; subst hw; simp
    · cases hw
  | succ k ih =>
    intro a b l hw; unfold way at hw
    split at hw
    · injection hw with hw; subst hw; simp
    · split at hw
      · cases hq : way h k (cont h a) b with
        | none => rw [hq] at hw; cases hw
        | some m =>
          rw [hq] at hw
          injection hw with hw
          subst hw
          have := ih hq
          simp; omega
      · cases hw
theorem walkC_len (s : St) (a b : Int) : (walkC s a b).1.length ≤ 8 := by
  unfold walkC
  split
  · cases hw : way s.h 8 a b with
    | none => simp
    | some l => exact way_len hw
  · simp

end Go.Proofs.YtinnopkeoohgeaaDoor.Pl
