/- The plain mathematics of parts of heaps: which cells atoms describe, truth of assertions, parts kept and joined, with no program in sight. No conditions. -/
import Derived.Test.YtlcijjbeikoppaaPlainWays
import Derived.Test.YtlcijjbeikoppaaPlainAsr
namespace Go.Proofs.Ytlcijjbeikoppaa.Pl

/-! ### Atoms -/
/-- The cells of a valid atom in a valid state. -/
def l4R (s : St) (x : Atm) : List Int × Bool :=
  if x.k = 2 then (match way s.h 8 (tval s.v x.a) (tval s.v x.b) with | some l => (l, true) | none => ([], false))
  else if hasB s.h (tval s.v x.a) && decide (cont s.h (tval s.v x.a) = tval s.v x.b) then ([tval s.v x.a], true) else ([], false)
def atomR (s : St) (x : Atm) : List Int × Bool := if stv s && av x then l4R s x else ([], false)
theorem atomR_ok {s : St} {x : Atm} (hs : stv s = true) (hx : av x = true) : atomR s x = l4R s x := by unfold atomR; rw [hs, hx]; rfl
theorem l4R_len (s : St) (x : Atm) : (l4R s x).1.length ≤ 8 := by
  unfold l4R; split
  · cases h : way s.h 8 (tval s.v x.a) (tval s.v x.b) with
    | none => simp
    | some l => exact way_len h
  · split <;> simp
theorem atomR_len (s : St) (x : Atm) : (atomR s x).1.length ≤ 8 := by
  unfold atomR; split
  · exact l4R_len s x
  · simp

/-! ### Sets of addresses -/
/-- The cells of a list come to a set; none where one is in it already. -/
def addP : List Int → (Int → Bool) → Option (Int → Bool)
  | [], p => some p
  | n :: l, p => if p n then none else addP l fun t => p t || decide (t = n)
/-- The cells of all atoms of a list come to a set. -/
def cellsP (s : St) : List Atm → (Int → Bool) → Option (Int → Bool)
  | [], p => some p
  | x :: xs, p => match l4R s x with
    | (l, true) => (match addP l p with | some q => cellsP s xs q | none => none)
    | (_, false) => none
def noP : Int → Bool := fun _ => false
def partP (s : St) (a : Asr) : Option (Int → Bool) := if stv s && asv a && holdB a.f s.v then cellsP s a.a noP else none
/-- Every address of the set is allocated. -/
def Sub (p : Int → Bool) (h : List Int) : Prop := ∀ t, p t = true → hasB h t = true
theorem way_has {h : List Int} {k : Nat} : ∀ {a b : Int} {l : List Int}, way h k a b = some l → ∀ n ∈ l, hasB h n = true := by
  induction k with
  | zero =>
    intro a b l hw n hn
    unfold way at hw
    split at hw
    · injection hw with hw; subst hw; cases hn
    · cases hw
  | succ k ih =>
    intro a b l hw n hn
    unfold way at hw
    split at hw
    · injection hw with hw; subst hw; cases hn
    · split at hw
      · rename_i hh
        cases hq : way h k (cont h a) b with
        | none => rw [hq] at hw; cases hw
        | some m =>
          rw [hq] at hw
          injection hw with hw
          subst hw
          rcases List.mem_cons.1 hn with rfl | hn
          · exact hh
          · exact ih hq n hn
      · cases hw
theorem l4R_has {s : St} {x : Atm} {l : List Int} (h : l4R s x = (l, true)) : ∀ n ∈ l, hasB s.h n = true := by
  unfold l4R at h
  split at h
  · cases hw : way s.h 8 (tval s.v x.a) (tval s.v x.b) with
    | none => rw [hw] at h; simp at h
    | some m =>
      rw [hw] at h
      simp only [Prod.mk.injEq, and_true] at h
      subst h
      exact way_has hw
  · split at h
    · rename_i hc
      rw [Bool.and_eq_true] at hc
      simp only [Prod.mk.injEq, and_true] at h
      subst h
      intro n hn
      rw [List.mem_singleton.1 hn]; exact hc.1
    · simp at h
theorem addP_sub {h : List Int} {l : List Int} : ∀ {p q : Int → Bool}, addP l p = some q → Sub p h → (∀ n ∈ l, hasB h n = true) → Sub q h := by
  induction l with
  | nil => intro p q e hp _; unfold addP at e; injection e with e; subst e; exact hp
  | cons n l ih =>
    intro p q e hp hl
    unfold addP at e
    split at e
    · cases e
    · refine ih e ?_ (fun m hm => hl m (List.mem_cons_of_mem _ hm))
      intro t ht
      rw [Bool.or_eq_true, decide_eq_true_iff] at ht
      rcases ht with ht | rfl
      · exact hp t ht
      · exact hl _ (List.mem_cons_self)
theorem cellsP_sub {s : St} {l : List Atm} : ∀ {p q : Int → Bool}, cellsP s l p = some q → Sub p s.h → Sub q s.h := by
  induction l with
  | nil => intro p q e hp; unfold cellsP at e; injection e with e; subst e; exact hp
  | cons x l ih =>
    intro p q e hp
    unfold cellsP at e
    split at e
    · rename_i m hm
      split at e
      · rename_i r hr
        exact ih e (addP_sub hr hp (l4R_has hm))
      · cases e
    · cases e
theorem partP_sub {s : St} {a : Asr} {q : Int → Bool} (h : partP s a = some q) : Sub q s.h := by
  unfold partP at h
  split at h
  · exact cellsP_sub h (fun t ht => by cases ht)
  · cases h

/-! ### Counting -/
def cnt (p : Int → Bool) : Nat → Nat
  | 0 => 0
  | k + 1 => cnt p k + if p ((k : Int) + 1) then 1 else 0
theorem cnt_le {p q : Int → Bool} (h : ∀ t, p t = true → q t = true) (k : Nat) : cnt p k ≤ cnt q k := by
  induction k with
  | zero => exact Nat.le_refl _
  | succ k ih =>
    unfold cnt
    have := h ((k : Int) + 1)
    cases hp : p ((k : Int) + 1) with
    | false => simp only [Bool.false_eq_true, if_false]; omega
    | true => rw [this hp]; simp; omega
theorem cnt_eq {p q : Int → Bool} (h : ∀ t, p t = true → q t = true) (k : Nat) : cnt p k = cnt q k ↔ ∀ i : Nat, 1 ≤ i → i ≤ k → p (i : Int) = q (i : Int) := by
  induction k with
  | zero => exact ⟨fun _ i h1 h2 => by omega, fun _ => rfl⟩
  | succ k ih =>
    have hl := cnt_le h k
    have hk := h ((k : Int) + 1)
    unfold cnt
    constructor
    · intro e i h1 h2
      have e1 : p ((k : Int) + 1) = q ((k : Int) + 1) := by
        cases hp : p ((k : Int) + 1) with
        | true => rw [hk hp]
        | false =>
          cases hq : q ((k : Int) + 1) with
          | false => rfl
          | true => rw [hp, hq] at e; simp at e; omega
      rw [e1] at e
      by_cases hi : i = k + 1
      · subst hi; exact_mod_cast e1
      · exact ih.1 (by omega) i h1 (by omega)
    · intro hh
      rw [ih.2 (fun i h1 h2 => hh i h1 (by omega))]
      have e1 := hh (k + 1) (by omega) (Nat.le_refl _)
      rw [show ((k + 1 : Nat) : Int) = (k : Int) + 1 from by omega] at e1
      rw [e1]
theorem usedTo_cnt (h : List Int) (k : Nat) : (usedTo h k).length = cnt (hasB h) k := by
  induction k with
  | zero => rfl
  | succ k ih =>
    unfold usedTo cnt
    rw [List.length_append, ih]
    cases hasB h ((k : Int) + 1) <;> simp

/-! ### Truth -/
def holdsB (s : St) (a : Asr) : Bool := match partP s a with | some p => decide (∀ i : Nat, i < 9 → 1 ≤ i → p (i : Int) = hasB s.h (i : Int)) | none => false
theorem holdsB_none {s : St} {a : Asr} (h : partP s a = none) : holdsB s a = false := by unfold holdsB; rw [h]
theorem holdsB_some {s : St} {a : Asr} {p : Int → Bool} (h : partP s a = some p) : holdsB s a = decide (∀ i : Nat, i < 9 → 1 ≤ i → p (i : Int) = hasB s.h (i : Int)) := by unfold holdsB; rw [h]
theorem holdsB_cnt {s : St} {a : Asr} {p : Int → Bool} (h : partP s a = some p) : holdsB s a = decide (cnt p 8 = (usedTo s.h 8).length) := by
  rw [holdsB_some h, Bool.eq_iff_iff, decide_eq_true_iff, decide_eq_true_iff, usedTo_cnt, cnt_eq (partP_sub h)]
  exact ⟨fun k i h1 h2 => k i (by omega) h1, fun k i h1 h2 => k i h2 (by omega)⟩

/-! ### Parts of a heap that are kept -/
def chosenP (s : St) (l : List Int) : Option (Int → Bool) := if stv s then chP s.h l noP else none
where chP (h : List Int) : List Int → (Int → Bool) → Option (Int → Bool)
  | [], p => some p
  | n :: l, p => if hasB h n && !p n then chP h l fun t => p t || decide (t = n) else none
def onlyTo (p : Int → Bool) (k : Nat) (h : List Int) : List Int := h.mapIdx fun i x => if i < k ∧ p ((i : Int) + 1) = false then -1 else x
theorem onlyTo_len (p : Int → Bool) (k : Nat) (h : List Int) : (onlyTo p k h).length = h.length := by simp [onlyTo]
theorem onlyTo_zero (p : Int → Bool) (h : List Int) : onlyTo p 0 h = h := by
  apply List.ext_getElem
  · simp [onlyTo]
  · intro i h1 h2; simp [onlyTo]
theorem onlyTo_keep {p : Int → Bool} {k : Nat} {h : List Int} (hp : p ((k : Int) + 1) = true) : onlyTo p (k + 1) h = onlyTo p k h := by
  apply List.ext_getElem
  · simp [onlyTo]
  · intro i h1 h2
    simp only [onlyTo, List.getElem_mapIdx]
    by_cases e : i = k
    · subst e; rw [if_neg (by rw [hp]; simp), if_neg (by omega)]
    · by_cases hk : i < k
      · simp [hk, show i < k + 1 from by omega]
      · rw [if_neg (by omega), if_neg (by omega)]
theorem onlyTo_drop {p : Int → Bool} {k : Nat} {h : List Int} (hp : p ((k : Int) + 1) = false) : onlyTo p (k + 1) h = (onlyTo p k h).set k (-1) := by
  apply List.ext_getElem
  · simp [onlyTo]
  · intro i h1 h2
    rw [List.getElem_set]
    simp only [onlyTo, List.getElem_mapIdx]
    by_cases e : k = i
    · subst e; rw [if_pos ⟨by omega, hp⟩, if_pos rfl]
    · rw [if_neg e]
      by_cases hk : i < k
      · simp [hk, show i < k + 1 from by omega]
      · rw [if_neg (by omega), if_neg (by omega)]
def keepR (s : St) (l : List Int) : St × Bool := match chosenP s l with | some p => (⟨s.v, onlyTo p 8 s.h⟩, true) | none => (emp, false)
def dropR (s : St) (l : List Int) : St × Bool := match chosenP s l with | some p => (⟨s.v, onlyTo (fun t => !p t) 8 s.h⟩, true) | none => (emp, false)
theorem keepR_some {s : St} {l : List Int} {p : Int → Bool} (h : chosenP s l = some p) : keepR s l = (⟨s.v, onlyTo p 8 s.h⟩, true) := by unfold keepR; rw [h]
theorem keepR_none {s : St} {l : List Int} (h : chosenP s l = none) : keepR s l = (emp, false) := by unfold keepR; rw [h]
theorem dropR_some {s : St} {l : List Int} {p : Int → Bool} (h : chosenP s l = some p) : dropR s l = (⟨s.v, onlyTo (fun t => !p t) 8 s.h⟩, true) := by unfold dropR; rw [h]
theorem dropR_none {s : St} {l : List Int} (h : chosenP s l = none) : dropR s l = (emp, false) := by unfold dropR; rw [h]
theorem keepR_len (s : St) (l : List Int) {n : Nat} (h1 : s.v.length ≤ n) (h2 : s.h.length ≤ n) : (keepR s l).1.v.length ≤ n ∧ (keepR s l).1.h.length ≤ n := by
  unfold keepR; split <;> simp [onlyTo_len, h1, h2]
theorem dropR_len (s : St) (l : List Int) {n : Nat} (h1 : s.v.length ≤ n) (h2 : s.h.length ≤ n) : (dropR s l).1.v.length ≤ n ∧ (dropR s l).1.h.length ≤ n := by
  unfold dropR; split <;> simp [onlyTo_len, h1, h2]

/-! ### Joining -/
def joinTo (g : List Int) (k : Nat) (h : List Int) : List Int := h.mapIdx fun i x => if i < k ∧ hasB g ((i : Int) + 1) = true then cont g ((i : Int) + 1) else x
theorem joinTo_len (g : List Int) (k : Nat) (h : List Int) : (joinTo g k h).length = h.length := by simp [joinTo]
theorem joinTo_zero (g h : List Int) : joinTo g 0 h = h := by
  apply List.ext_getElem
  · simp [joinTo]
  · intro i h1 h2; simp [joinTo]
theorem joinTo_keep {g : List Int} {k : Nat} {h : List Int} (hp : hasB g ((k : Int) + 1) = false) : joinTo g (k + 1) h = joinTo g k h := by
  apply List.ext_getElem
  · simp [joinTo]
  · intro i h1 h2
    simp only [joinTo, List.getElem_mapIdx]
    by_cases e : i = k
    · subst e; rw [if_neg (by rw [hp]; simp), if_neg (by omega)]
    · by_cases hk : i < k
      · simp [hk, show i < k + 1 from by omega]
      · rw [if_neg (by omega), if_neg (by omega)]
theorem joinTo_set {g : List Int} {k : Nat} {h : List Int} (hp : hasB g ((k : Int) + 1) = true) : joinTo g (k + 1) h = (joinTo g k h).set k (cont g ((k : Int) + 1)) := by
  apply List.ext_getElem
  · simp [joinTo]
  · intro i h1 h2
    rw [List.getElem_set]
    simp only [joinTo, List.getElem_mapIdx]
    by_cases e : k = i
    · subst e; rw [if_pos ⟨by omega, hp⟩, if_pos rfl]
    · rw [if_neg e]
      by_cases hk : i < k
      · simp [hk, show i < k + 1 from by omega]
      · rw [if_neg (by omega), if_neg (by omega)]
theorem joinTo_get {g : List Int} {k i : Nat} {h : List Int} (hi : k ≤ i) (hl : i < h.length) : (joinTo g k h)[i]? = h[i]? := by
  rw [List.getElem?_eq_getElem (by rw [joinTo_len]; exact hl), List.getElem?_eq_getElem hl]
  simp only [joinTo, List.getElem_mapIdx]
  rw [if_neg (by omega)]
/-- No address is allocated in both. -/
def apartB (g h : List Int) : Bool := decide (∀ i : Nat, i < 8 → ¬ (hasB g ((i : Int) + 1) = true ∧ hasB h ((i : Int) + 1) = true))
theorem apartB_iff (g h : List Int) : apartB g h = true ↔ ∀ i : Nat, i < 8 → ¬ (hasB g ((i : Int) + 1) = true ∧ hasB h ((i : Int) + 1) = true) := by unfold apartB; exact decide_eq_true_iff
def joinOk (s t : St) : Bool := stv s && (stv t && (decide (s.v = t.v) && apartB s.h t.h))
def joinS (s t : St) : St × Bool := if joinOk s t then (⟨s.v, joinTo t.h 8 s.h⟩, true) else (emp, false)
theorem joinS_ok {s t : St} (h : joinOk s t = true) : joinS s t = (⟨s.v, joinTo t.h 8 s.h⟩, true) := by unfold joinS; rw [if_pos h]
theorem joinS_no {s t : St} (h : joinOk s t = false) : joinS s t = (emp, false) := by unfold joinS; rw [h]; rfl
theorem joinS_len (s t : St) {n : Nat} (h1 : s.v.length ≤ n) (h2 : s.h.length ≤ n) : (joinS s t).1.v.length ≤ n ∧ (joinS s t).1.h.length ≤ n := by
  unfold joinS; split <;> simp [joinTo_len, h1, h2]

end Go.Proofs.Ytlcijjbeikoppaa.Pl
