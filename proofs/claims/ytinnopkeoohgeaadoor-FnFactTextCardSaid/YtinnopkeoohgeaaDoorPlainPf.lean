/- Plain law of the reference's reading of a fact: the first equality sign parts the text. No program. -/
import Derived.Test.YtinnopkeoohgeaaDoorPlainText
namespace Go.Proofs.YtinnopkeoohgeaaDoor.Pl
open Go.Lib
set_option linter.unusedVariables false

theorem cut_at {s : Txt} {i : Nat} {c : UInt8} (hi : s[i]? = some c) (hn : ∀ j, j < i → s[j]? ≠ some c) : cut s [c] = (s.take i, s.drop (i + 1), true) := by
  obtain ⟨hl, he⟩ := List.getElem?_eq_some_iff.1 hi
  have hs : s = s.take i ++ [c] ++ s.drop (i + 1) := by
    conv => lhs; rw [← List.take_append_drop i s, List.drop_eq_getElem_cons hl, he]
    simp
  conv => lhs; rw [hs]
  refine cut_sep (c := c) (j := 0) (fun hm => ?_) rfl (fun j hj => by omega)
  obtain ⟨j, hj, e⟩ := List.getElem_of_mem hm
  rw [List.length_take] at hj
  rw [List.getElem_take] at e
  exact hn j (by omega) (by rw [List.getElem?_eq_getElem (by omega), e])
theorem cut_no {s : Txt} {c : UInt8} (hn : ∀ j, j < s.length → s[j]? ≠ some c) : cut s [c] = (s, [], false) := by
  refine cut_lack (c := c) (j := 0) (fun hm => ?_) rfl
  obtain ⟨j, hj, e⟩ := List.getElem_of_mem hm
  exact hn j hj (by rw [List.getElem?_eq_getElem hj, e])
theorem sfx_iff {s : Txt} {i : Nat} (hi : i ≤ s.length) (c : UInt8) : hasSuffix (s.take i) [c] = true ↔ 0 < i ∧ s[i - 1]? = some c := by
  unfold hasSuffix
  rw [List.isSuffixOf_iff_suffix]
  constructor
  · rintro ⟨t, ht⟩
    have hl : t.length + 1 = i := by
      have := congrArg List.length ht
      simp at this; omega
    have h1 : (s.take i)[i - 1]? = some c := by
      rw [← ht, List.getElem?_append_right (by omega)]
      simp [show i - 1 - t.length = 0 by omega]
    refine ⟨by omega, ?_⟩
    rw [List.getElem?_take] at h1
    split at h1
    · exact h1
    · cases h1
  · rintro ⟨h0, h1⟩
    obtain ⟨hl, he⟩ := List.getElem?_eq_some_iff.1 h1
    refine ⟨s.take (i - 1), ?_⟩
    have := List.take_succ_eq_append_getElem hl
    rw [show i - 1 + 1 = i by omega] at this
    rw [this, he]
theorem trim_at {s : Txt} {i : Nat} (hi : i ≤ s.length) {c : UInt8} (h : hasSuffix (s.take i) [c] = true) : trimSuffix (s.take i) [c] = s.take (i - 1) := by
  unfold trimSuffix
  rw [if_pos h, List.length_take, Nat.min_eq_left hi, List.take_take]
  simp [Nat.min_eq_left (show i - 1 ≤ i by omega)]

/-- The reference's answer at the first equality sign. -/
theorem pF_at {s : Txt} {i : Nat} (hi : s[i]? = some 61) (hn : ∀ j, j < i → s[j]? ≠ some 61) (hm : 0 < i ∧ s[i - 1]? = some 33) : pF s = pF2 false (s.take (i - 1)) (s.drop (i + 1)) := by
  have hl : i ≤ s.length := Nat.le_of_lt (List.getElem?_eq_some_iff.1 hi).1
  unfold pF
  rw [cut_at hi hn, if_pos rfl]
  have h1 := (sfx_iff hl 33).2 hm
  rw [h1, trim_at hl h1]; rfl
theorem pF_at2 {s : Txt} {i : Nat} (hi : s[i]? = some 61) (hn : ∀ j, j < i → s[j]? ≠ some 61) (hm : ¬ (0 < i ∧ s[i - 1]? = some 33)) : pF s = pF2 true (s.take i) (s.drop (i + 1)) := by
  have hl : i ≤ s.length := Nat.le_of_lt (List.getElem?_eq_some_iff.1 hi).1
  unfold pF
  rw [cut_at hi hn, if_pos rfl]
  have h1 : hasSuffix (s.take i) [33] = false := by
    cases hq : hasSuffix (s.take i) [33] with
    | false => rfl
    | true => exact absurd ((sfx_iff hl 33).1 hq) hm
  have h2 : trimSuffix (s.take i) [33] = s.take i := by unfold trimSuffix; rw [h1]; rfl
  rw [h1, h2]; rfl
theorem pF_none {s : Txt} (hn : ∀ j, j < s.length → s[j]? ≠ some 61) : pF s = (noF, false) := by
  unfold pF
  rw [cut_no hn]; rfl

end Go.Proofs.YtinnopkeoohgeaaDoor.Pl
