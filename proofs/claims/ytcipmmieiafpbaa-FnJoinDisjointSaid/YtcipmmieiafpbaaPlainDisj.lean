/- Joining is partial: plain laws. No conditions. -/
import Derived.Test.YtcipmmieiafpbaaPlainJoin
namespace Go.Proofs.Ytcipmmieiafpbaa.Pl
set_option linter.unusedVariables false

theorem apart_all (g h : List Int) : ((usedTo g 8).all fun n => !decide (n ∈ usedTo h 8)) = apartB g h := by
  rw [Bool.eq_iff_iff, apartB_iff, List.all_eq_true]
  constructor
  · rintro hh i hi ⟨h1, h2⟩
    have := hh ((i : Int) + 1) (mem_usedTo.2 ⟨⟨by omega, by omega⟩, h1⟩)
    rw [Bool.not_eq_true', decide_eq_false_iff_not] at this
    exact this (mem_usedTo.2 ⟨⟨by omega, by omega⟩, h2⟩)
  · intro hh n hn
    obtain ⟨⟨h1, h2⟩, h3⟩ := mem_usedTo.1 hn
    rw [Bool.not_eq_true', decide_eq_false_iff_not]
    intro hm
    obtain ⟨_, h4⟩ := mem_usedTo.1 hm
    refine hh (n - 1).toNat (by omega) ?_
    rw [show ((n - 1).toNat : Int) + 1 = n by omega]
    exact ⟨h3, h4⟩
theorem cnt_or {p q : Int → Bool} : ∀ k : Nat, (∀ i : Nat, i < k → ¬ (p ((i : Int) + 1) = true ∧ q ((i : Int) + 1) = true)) → cnt (fun t => p t || q t) k = cnt p k + cnt q k
  | 0, _ => rfl
  | k + 1, h => by
    have ih := cnt_or k (fun i hi => h i (by omega))
    have hk := h k (by omega)
    unfold cnt
    rw [ih]
    cases hp : p ((k : Int) + 1) <;> cases hq : q ((k : Int) + 1) <;> simp_all <;> omega
theorem join_has {g h : List Int} (hg : g.length = 8) (hh : h.length = 8) (t : Int) : hasB (joinTo h 8 g) t = (hasB g t || hasB h t) := by
  have hl : (joinTo h 8 g).length = 8 := by rw [joinTo_len]; exact hg
  cases ha : adB t with
  | false =>
    rw [show hasB (joinTo h 8 g) t = false from by rw [hasB_false, cont_out ha]; omega, show hasB g t = false from by rw [hasB_false, cont_out ha]; omega, show hasB h t = false from by rw [hasB_false, cont_out ha]; omega]; rfl
  | true =>
    have := (adB_iff t).1 ha
    obtain ⟨i, rfl⟩ : ∃ i : Nat, t = (i : Int) + 1 := ⟨(t - 1).toNat, by omega⟩
    have hi : i < 8 := by omega
    unfold hasB
    rw [cont_in (n := i) (by omega) hl]
    simp only [joinTo, List.getElem_mapIdx]
    cases hb : hasB h ((i : Int) + 1) with
    | true =>
      rw [if_pos ⟨hi, rfl⟩, decide_eq_true ((hasB_iff _ _).1 hb), Bool.or_true]
    | false =>
      have h2 := (hasB_false _ _).1 hb
      rw [if_neg (by rintro ⟨_, e⟩; cases e), cont_in (n := i) (by omega) hg, decide_eq_false (show ¬ 0 ≤ cont h ((i : Int) + 1) by omega), Bool.or_false]
theorem join_count {s t : St} (h : joinOk s t = true) : (usedC (joinS s t).1).length = (usedC s).length + (usedC t).length := by
  rw [joinS_ok h]
  unfold joinOk at h
  rw [Bool.and_eq_true, Bool.and_eq_true, Bool.and_eq_true, decide_eq_true_iff] at h
  obtain ⟨h1, h2, h3, h4⟩ := h
  have hs : stv ⟨s.v, joinTo t.h 8 s.h⟩ = true := by
    obtain ⟨⟨a1, a2⟩, a3, a4⟩ := (stv_iff _).1 h1
    obtain ⟨⟨b1, b2⟩, b3, b4⟩ := (stv_iff _).1 h2
    refine (stv_iff _).2 ⟨⟨a1, by show (joinTo t.h 8 s.h).length = 8; rw [joinTo_len]; exact a2⟩, a3, ?_⟩
    intro n hn
    obtain ⟨i, hi, rfl⟩ := List.mem_iff_getElem.1 (show n ∈ joinTo t.h 8 s.h from hn)
    rw [joinTo_len] at hi
    simp only [joinTo, List.getElem_mapIdx]
    split
    · rw [cont_in (n := i) (by omega) b2]; exact b4 _ (List.getElem_mem _)
    · exact a4 _ (List.getElem_mem _)
  have e : ∀ u : St, stv u = true → (usedC u).length = cnt (hasB u.h) 8 := fun u hu => by
    rw [show usedC u = usedTo u.h 8 by unfold usedC; rw [hu]; rfl, usedTo_cnt]
  rw [e _ hs, e _ h1, e _ h2]
  show cnt (hasB (joinTo t.h 8 s.h)) 8 = _
  rw [← cnt_or 8 ((apartB_iff _ _).1 h4)]
  congr 1
  funext x
  exact join_has (stv_h h1) (stv_h h2) x

theorem joinS_snd (s t : St) : (joinS s t).2 = joinOk s t := by
  cases h : joinOk s t with
  | true => rw [joinS_ok h]
  | false => rw [joinS_no h]
theorem join_says {s t x : St} {b : Bool} (hx : joinS s t = (x, b)) (hs : stv s = true) (ht : stv t = true) :
    b = (decide (s.v = t.v) && (usedC s).all fun n => !decide (n ∈ usedC t)) ∧ (b = true → (usedC x).length = (usedC s).length + (usedC t).length) := by
  have e := joinS_snd s t
  rw [hx] at e
  replace e : b = joinOk s t := e
  refine ⟨?_, fun hb => ?_⟩
  · rw [e, show usedC s = usedTo s.h 8 by unfold usedC; rw [hs]; rfl, show usedC t = usedTo t.h 8 by unfold usedC; rw [ht]; rfl, apart_all]
    unfold joinOk
    rw [hs, ht]; rfl
  · have := join_count (s := s) (t := t) (by rw [← e]; exact hb)
    rw [hx] at this
    exact this

end Go.Proofs.Ytcipmmieiafpbaa.Pl
