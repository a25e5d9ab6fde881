/- The parts of a state join to the state: plain laws. No conditions. -/
import Derived.Test.YtcipmmieiafpbaaPlainCells
namespace Go.Proofs.Ytcipmmieiafpbaa.Pl

theorem cnt_add {p : Int → Bool} {m : Nat} (hp : p ((m : Int) + 1) = false) : ∀ k : Nat, cnt (fun t => p t || decide (t = (m : Int) + 1)) k = cnt p k + if m < k then 1 else 0
  | 0 => rfl
  | k + 1 => by
    unfold cnt
    rw [cnt_add hp k]
    by_cases e : m = k
    · subst e
      simp [hp]
    · have h1 : decide ((k : Int) + 1 = (m : Int) + 1) = false := decide_eq_false (by omega)
      simp only [h1, Bool.or_false]
      by_cases hk : m < k
      · rw [if_pos hk, if_pos (show m < k + 1 by omega)]; omega
      · rw [if_neg hk, if_neg (show ¬ m < k + 1 by omega)]; rfl
theorem chP_sound {h : List Int} : ∀ {l : List Int} {p q : Int → Bool}, chosenP.chP h l p = some q → Sub p h → Sub q h ∧ cnt q 8 = cnt p 8 + l.length
  | [], p, q, e, hs => by
    unfold chosenP.chP at e
    injection e with e
    subst e
    exact ⟨hs, rfl⟩
  | n :: l, p, q, e, hs => by
    unfold chosenP.chP at e
    split at e
    · rename_i hc
      rw [Bool.and_eq_true, Bool.not_eq_true'] at hc
      have har := has_ad hc.1
      obtain ⟨m, rfl⟩ : ∃ m : Nat, n = (m : Int) + 1 := ⟨(n - 1).toNat, by omega⟩
      obtain ⟨h1, h2⟩ := chP_sound e (fun t ht => by
        rw [Bool.or_eq_true, decide_eq_true_iff] at ht
        rcases ht with ht | rfl
        · exact hs t ht
        · exact hc.1)
      refine ⟨h1, ?_⟩
      rw [h2, cnt_add hc.2, if_pos (show m < 8 by omega), List.length_cons]
      omega
    · cases e
theorem cnt_no : ∀ k : Nat, cnt noP k = 0
  | 0 => rfl
  | k + 1 => by unfold cnt; rw [cnt_no k]; rfl
theorem chosen_sound {s : St} {l : List Int} {p : Int → Bool} (h : chosenP s l = some p) : stv s = true ∧ Sub p s.h ∧ cnt p 8 = l.length := by
  unfold chosenP at h
  split at h
  · rename_i hs
    obtain ⟨h1, h2⟩ := chP_sound h (fun t ht => by cases ht)
    exact ⟨hs, h1, by rw [h2, cnt_no]; omega⟩
  · cases h
theorem only_get {p : Int → Bool} {h : List Int} {i : Nat} (hi : i < h.length) (h8 : h.length = 8) : (onlyTo p 8 h)[i]'(by rw [onlyTo_len]; exact hi) = if p ((i : Int) + 1) = false then -1 else h[i] := by
  simp only [onlyTo, List.getElem_mapIdx]
  by_cases hp : p ((i : Int) + 1) = false
  · rw [if_pos ⟨by omega, hp⟩, if_pos hp]
  · rw [if_neg (by rintro ⟨_, e⟩; exact hp e), if_neg hp]
theorem only_cont {p : Int → Bool} {h : List Int} (h8 : h.length = 8) (t : Int) : cont (onlyTo p 8 h) t = if p t = false then -1 else cont h t := by
  cases ha : adB t with
  | false => rw [cont_out ha, cont_out ha]; simp
  | true =>
    have := (adB_iff t).1 ha
    obtain ⟨i, rfl⟩ : ∃ i : Nat, t = (i : Int) + 1 := ⟨(t - 1).toNat, by omega⟩
    rw [cont_in (n := i) (by rw [onlyTo_len]; omega) (by rw [onlyTo_len]; exact h8), cont_in (n := i) (by omega) h8, only_get (by omega) h8]
theorem only_has {p : Int → Bool} {h : List Int} (h8 : h.length = 8) (t : Int) : hasB (onlyTo p 8 h) t = (p t && hasB h t) := by
  unfold hasB
  rw [only_cont h8]
  cases p t <;> simp
theorem only_stv {v h : List Int} {p : Int → Bool} (hs : stv ⟨v, h⟩ = true) : stv ⟨v, onlyTo p 8 h⟩ = true := by
  obtain ⟨⟨h1, h2⟩, h3, h4⟩ := (stv_iff _).1 hs
  replace h2 : h.length = 8 := h2
  refine (stv_iff _).2 ⟨⟨h1, by show (onlyTo p 8 h).length = 8; rw [onlyTo_len]; exact h2⟩, h3, ?_⟩
  intro n hn
  obtain ⟨i, hi, rfl⟩ := List.mem_iff_getElem.1 (show n ∈ onlyTo p 8 h from hn)
  rw [onlyTo_len] at hi
  rw [only_get hi h2]
  split
  · decide
  · exact h4 _ (List.getElem_mem hi)
theorem only_apart {h : List Int} {p : Int → Bool} (h8 : h.length = 8) : apartB (onlyTo p 8 h) (onlyTo (fun t => !p t) 8 h) = true := by
  rw [apartB_iff]
  rintro i _ ⟨h1, h2⟩
  rw [only_has h8] at h1 h2
  cases hp : p ((i : Int) + 1) <;> simp [hp] at h1 h2
theorem only_join {v h : List Int} {p : Int → Bool} (hs : stv ⟨v, h⟩ = true) : joinTo (onlyTo (fun t => !p t) 8 h) 8 (onlyTo p 8 h) = h := by
  have h8 : h.length = 8 := stv_h hs
  apply List.ext_getElem
  · rw [joinTo_len, onlyTo_len]
  · intro i h1 h2
    simp only [joinTo, List.getElem_mapIdx]
    rw [only_get h2 h8, only_has h8, only_cont h8, cont_in h2 h8]
    have hcl := (clB_iff _).1 (((stv_iff _).1 hs).2.2 h[i] (List.getElem_mem h2))
    cases hp : p ((i : Int) + 1) with
    | true => simp
    | false =>
      cases hh : hasB h ((i : Int) + 1) with
      | true => simp; omega
      | false =>
        rw [hasB_false, cont_in h2 h8] at hh
        simp; omega
theorem only_not (p : Int → Bool) (h : List Int) : onlyTo (fun t => !!p t) 8 h = onlyTo p 8 h := by
  rw [show (fun t => !!p t) = p from funext fun t => Bool.not_not _]
/-- The parts join, in either order; the kept part has as many cells as were chosen. -/
theorem parts_join {s : St} {l : List Int} {p : Int → Bool} (h : chosenP s l = some p) :
    joinS ⟨s.v, onlyTo p 8 s.h⟩ ⟨s.v, onlyTo (fun t => !p t) 8 s.h⟩ = (s, true) ∧ joinS ⟨s.v, onlyTo (fun t => !p t) 8 s.h⟩ ⟨s.v, onlyTo p 8 s.h⟩ = (s, true) ∧ (usedC ⟨s.v, onlyTo p 8 s.h⟩).length = l.length := by
  obtain ⟨v, g⟩ := s
  obtain ⟨hs, hsub, hc⟩ := chosen_sound h
  have h8 : g.length = 8 := stv_h hs
  have ap := only_apart (p := p) h8
  have ap2 := only_apart (p := fun t => !p t) h8
  rw [only_not] at ap2
  have jn := only_join (p := fun t => !p t) hs
  rw [only_not] at jn
  refine ⟨?_, ?_, ?_⟩
  · rw [joinS_ok (by unfold joinOk; rw [only_stv hs, only_stv hs, decide_eq_true rfl]; exact ap)]
    show (St.mk v (joinTo _ 8 _), true) = _
    rw [only_join hs]
  · rw [joinS_ok (by unfold joinOk; rw [only_stv hs, only_stv hs, decide_eq_true rfl]; exact ap2)]
    show (St.mk v (joinTo _ 8 _), true) = _
    rw [jn]
  · rw [show usedC ⟨v, onlyTo p 8 g⟩ = usedTo (onlyTo p 8 g) 8 by unfold usedC; rw [only_stv hs]; rfl, usedTo_cnt, ← hc]
    congr 1
    funext t
    rw [only_has h8]
    cases hp : p t with
    | false => rfl
    | true => rw [show hasB g t = true from hsub t hp]; rfl

end Go.Proofs.Ytcipmmieiafpbaa.Pl
