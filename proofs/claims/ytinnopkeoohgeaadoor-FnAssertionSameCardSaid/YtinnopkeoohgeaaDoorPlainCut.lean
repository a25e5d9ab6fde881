/- Cutting, splitting and joining of texts at a separator: plain lists of bytes. No conditions. -/
import Derived.Lib.SplitLaws
import Derived.Lib.Join
namespace Go.Proofs.YtinnopkeoohgeaaDoor.Pl
open Go.Lib

abbrev Txt := List UInt8

/-- An instance at a place: what stands there. -/
theorem occ_iff {s sub : Txt} {i : Nat} : occAt s sub i = true ↔ ∃ t, s.drop i = sub ++ t := by
  unfold occAt
  rw [List.isPrefixOf_iff_prefix]
  exact ⟨fun ⟨t, h⟩ => ⟨t, h.symm⟩, fun ⟨t, h⟩ => ⟨t, h.symm⟩⟩
theorem occ_get {s sub : Txt} {i j : Nat} {c : UInt8} (h : occAt s sub i = true) (hj : sub[j]? = some c) : s[i + j]? = some c := by
  obtain ⟨t, ht⟩ := occ_iff.1 h
  rw [← List.getElem?_drop, ht, List.getElem?_append_left (List.getElem?_eq_some_iff.1 hj).1]
  exact hj
/-- A separator one of whose bytes the text ahead of it lacks, its other bytes ahead of that one being others. -/
theorem index_sep {x y sep : Txt} {c : UInt8} {j : Nat} (hx : c ∉ x) (hj : sep[j]? = some c) (hb : ∀ i, i < j → sep[i]? ≠ some c) : index (x ++ sep ++ y) sep = x.length := by
  refine index_first (by simp only [List.length_append]; omega) ?_ ?_
  · rw [occ_iff]; exact ⟨y, by rw [List.append_assoc, List.drop_left]⟩
  · intro k hk
    rw [Bool.eq_false_iff]
    intro h
    have h1 := occ_get h hj
    rw [List.append_assoc] at h1
    by_cases h2 : k + j < x.length
    · rw [List.getElem?_append_left h2] at h1
      exact hx (List.mem_of_getElem? h1)
    · rw [List.getElem?_append_right (by omega)] at h1
      have hjl : j < sep.length := (List.getElem?_eq_some_iff.1 hj).1
      rw [List.getElem?_append_left (by omega)] at h1
      exact hb _ (by omega) h1
theorem index_lack {s sep : Txt} {c : UInt8} {j : Nat} (hx : c ∉ s) (hj : sep[j]? = some c) : index s sep = -1 := by
  refine index_none fun k _ => ?_
  rw [Bool.eq_false_iff]
  intro h
  exact hx (List.mem_of_getElem? (occ_get h hj))
theorem index_hit {s sep : Txt} {i : Nat} (h : index s sep = i) : s = s.take i ++ sep ++ s.drop (i + sep.length) := by
  rcases index_spec s sep with ⟨h1, _⟩ | ⟨k, h1, h2, h3, _⟩
  · omega
  · obtain rfl : k = i := by omega
    obtain ⟨t, ht⟩ := occ_iff.1 h3
    have e : s.drop (k + sep.length) = t := by rw [← List.drop_drop, ht, List.drop_left]
    rw [e, List.append_assoc, ← ht, List.take_append_drop]
theorem cut_sep {x y sep : Txt} {c : UInt8} {j : Nat} (hx : c ∉ x) (hj : sep[j]? = some c) (hb : ∀ i, i < j → sep[i]? ≠ some c) : cut (x ++ sep ++ y) sep = (x, y, true) := by
  unfold cut
  rw [index_sep hx hj hb, if_pos (by omega)]
  simp only [Int.toNat_natCast, Prod.mk.injEq, and_true]
  exact ⟨by rw [List.append_assoc, List.take_left], by rw [← List.length_append, List.drop_left]⟩
theorem cut_lack {s sep : Txt} {c : UInt8} {j : Nat} (hx : c ∉ s) (hj : sep[j]? = some c) : cut s sep = (s, [], false) := by
  unfold cut
  rw [index_lack hx hj, if_neg (by omega)]
theorem cut_found {s sep x y : Txt} (h : cut s sep = (x, y, true)) : s = x ++ sep ++ y := by
  unfold cut at h
  split at h
  · rename_i h0
    simp only [Prod.mk.injEq, and_true] at h
    obtain ⟨rfl, rfl⟩ := h
    exact index_hit (by omega)
  · simp at h

/-! ### Splitting and joining -/
theorem splitK_one (sep s : Txt) (k : Nat) (h : index s sep = -1) : splitK sep 0 k s = [s] := by
  cases k with
  | zero => rfl
  | succ k => unfold splitK; rw [if_pos (by rw [h]; rfl)]
theorem splitK_hit {sep s : Txt} {k i : Nat} (h : index s sep = i) : splitK sep 0 (k + 1) s = s.take i :: splitK sep 0 k (s.drop (i + sep.length)) := by
  conv => lhs; unfold splitK
  rw [if_neg (by rw [h]; simp), h]
  simp
theorem join_two (p q : Txt) (l : List Txt) (sep : Txt) : join (p :: q :: l) sep = p ++ sep ++ join (q :: l) sep := by
  rw [join_cons p, join_cons q]; simp [joinTail, List.append_assoc]
theorem split_join {sep : Txt} {c : UInt8} {j : Nat} (hj : sep[j]? = some c) (hb : ∀ i, i < j → sep[i]? ≠ some c) :
    ∀ (ps : List Txt), ps ≠ [] → (∀ p ∈ ps, c ∉ p) → count (join ps sep) sep = ps.length - 1 ∧ splitK sep 0 (ps.length - 1) (join ps sep) = ps
  | [], h, _ => absurd rfl h
  | [p], _, hp => by
    rw [join_one]
    have := index_lack (hp p (by simp)) hj
    exact ⟨by rw [count_miss this]; rfl, rfl⟩
  | p :: q :: l, _, hp => by
    have hne : sep ≠ [] := by rintro rfl; simp at hj
    obtain ⟨h1, h2⟩ := split_join hj hb (q :: l) (by simp) (fun x hx => hp x (List.mem_cons_of_mem _ hx))
    have hi : index (p ++ sep ++ join (q :: l) sep) sep = p.length := index_sep (hp p (by simp)) hj hb
    have hd : (p ++ sep ++ join (q :: l) sep).drop (p.length + sep.length) = join (q :: l) sep := by rw [← List.length_append, List.drop_left]
    rw [join_two]
    constructor
    · rw [count_hit hne hi, hd, h1]; simp only [List.length_cons]; omega
    · show splitK sep 0 (l.length + 1) _ = _
      rw [splitK_hit hi, hd, List.append_assoc, List.take_left]
      simp only [List.length_cons, Nat.add_sub_cancel] at h2
      rw [h2]
theorem split_of_join {sep : Txt} {c : UInt8} {j : Nat} (hj : sep[j]? = some c) (hb : ∀ i, i < j → sep[i]? ≠ some c) {ps : List Txt} (h0 : ps ≠ []) (hp : ∀ p ∈ ps, c ∉ p) : split (join ps sep) sep = ps := by
  obtain ⟨h1, h2⟩ := split_join hj hb ps h0 hp
  unfold split; rw [h1, h2]
theorem splitK_ne (sep : Txt) (k : Nat) (s : Txt) : splitK sep 0 k s ≠ [] := by
  cases k with
  | zero => simp [splitK]
  | succ k => unfold splitK; split <;> simp
theorem join_splitK (sep : Txt) : ∀ (k : Nat) (s : Txt), join (splitK sep 0 k s) sep = s
  | 0, s => join_one s sep
  | k + 1, s => by
    rcases index_spec s sep with ⟨h1, _⟩ | ⟨i, h1, _, _, _⟩
    · rw [splitK_one sep s _ h1]; exact join_one s sep
    · rw [splitK_hit h1]
      have ih := join_splitK sep k (s.drop (i + sep.length))
      cases hq : splitK sep 0 k (s.drop (i + sep.length)) with
      | nil => exact absurd hq (splitK_ne _ _ _)
      | cons q l =>
        rw [join_two, ← hq, ih]
        exact (index_hit h1).symm
theorem join_split (s sep : Txt) : join (split s sep) sep = s := join_splitK sep _ s
theorem split_ne (s sep : Txt) : split s sep ≠ [] := splitK_ne sep _ s

/-! ### Texts as strings -/
def str (l : Txt) : ByteArray := ⟨l.toArray⟩
theorem str_data (l : Txt) : (str l).data.toList = l := by simp [str]
theorem data_str (s : ByteArray) : str s.data.toList = s := by simp [str]
theorem str_inj {a b : Txt} (h : str a = str b) : a = b := by rw [← str_data a, h, str_data]
theorem str_size (l : Txt) : (str l).size = l.length := by simp [str, ByteArray.size]
theorem str_append (a b : Txt) : str a ++ str b = str (a ++ b) := by
  apply ByteArray.ext
  rw [ByteArray.data_append]
  simp [str]

end Go.Proofs.YtinnopkeoohgeaaDoor.Pl
