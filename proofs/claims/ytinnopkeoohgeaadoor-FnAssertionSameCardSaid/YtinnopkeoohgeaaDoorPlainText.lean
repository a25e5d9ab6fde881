/- Names of terms and texts of facts: plain lists of bytes. No conditions. -/
import Derived.Test.YtinnopkeoohgeaaDoorPlainFacts
import Derived.Test.YtinnopkeoohgeaaDoorPlainCut
namespace Go.Proofs.YtinnopkeoohgeaaDoor.Pl
open Go.Lib

/-! ### Names -/
def nmN : Nat → Txt
  | 0 => [110, 105, 108]
  | 1 => [97]
  | 2 => [98]
  | 3 => [99]
  | 4 => [100]
  | 5 => [112]
  | 6 => [113]
  | 7 => [114]
  | 8 => [115]
  | _ => []
def nm (t : Int) : Txt := if tmB t then nmN t.toNat else []
theorem nm_nat {t : Nat} (h : t ≤ 8) : nm (t : Int) = nmN t := by unfold nm; rw [if_pos ((tmB_iff _).2 (by omega))]; rfl
theorem nm_bad {t : Int} (h : tmB t = false) : nm t = [] := by unfold nm; rw [h]; rfl
theorem tm_of {t : Int} (h : tmB t = true) : ∃ n : Nat, t = (n : Int) ∧ n ≤ 8 := by
  have := (tmB_iff t).1 h
  exact ⟨t.toNat, by omega, by omega⟩
theorem nmN_fin : ∀ a b : Fin 9, nmN a.val = nmN b.val → a = b := by decide
theorem nmN_inj {a b : Nat} (ha : a ≤ 8) (hb : b ≤ 8) (h : nmN a = nmN b) : a = b := congrArg Fin.val (nmN_fin ⟨a, by omega⟩ ⟨b, by omega⟩ h)
theorem nmN_low : ∀ a : Fin 9, ∀ c ∈ nmN a.val, 97 ≤ c := by decide
theorem nmN_len : ∀ a : Fin 9, 1 ≤ (nmN a.val).length ∧ (nmN a.val).length ≤ 3 := by decide
theorem nm_low {t : Int} {c : UInt8} (h : c ∈ nm t) : 97 ≤ c := by
  unfold nm at h
  split at h
  · rename_i ht
    have := (tmB_iff t).1 ht
    exact nmN_low ⟨t.toNat, by omega⟩ c h
  · cases h
theorem nm_len (t : Int) : (nm t).length ≤ 3 := by
  unfold nm
  split
  · rename_i ht
    have := (tmB_iff t).1 ht
    exact (nmN_len ⟨t.toNat, by omega⟩).2
  · simp
theorem nm_ne {t : Int} (h : tmB t = true) : nm t ≠ [] := by
  obtain ⟨n, rfl, hn⟩ := tm_of h
  rw [nm_nat hn]
  intro e
  have := (nmN_len ⟨n, by omega⟩).1
  simp only [e] at this
  simp at this
theorem nm_inj {a b : Int} (ha : tmB a = true) (hb : tmB b = true) (h : nm a = nm b) : a = b := by
  obtain ⟨n, rfl, hn⟩ := tm_of ha
  obtain ⟨m, rfl, hm⟩ := tm_of hb
  rw [nm_nat hn, nm_nat hm] at h
  rw [nmN_inj hn hm h]
/-- The term of a name, from k on. -/
def pTfrom (s : Txt) : Nat → Nat → Int × Bool
  | 0, _ => (0, false)
  | f + 1, t => if nmN t = s then ((t : Int), true) else pTfrom s f (t + 1)
def pT (s : Txt) : Int × Bool := pTfrom s 9 0
theorem pTfrom_hit {s : Txt} {f t : Nat} (h : nmN t = s) : pTfrom s (f + 1) t = ((t : Int), true) := by unfold pTfrom; rw [if_pos h]
theorem pTfrom_next {s : Txt} {f t : Nat} (h : nmN t ≠ s) : pTfrom s (f + 1) t = pTfrom s f (t + 1) := by
  conv => lhs; unfold pTfrom
  rw [if_neg h]
theorem pT_fin : ∀ a : Fin 9, pT (nmN a.val) = ((a.val : Int), true) := by decide
theorem pT_nm {t : Int} (h : tmB t = true) : pT (nm t) = (t, true) := by
  obtain ⟨n, rfl, hn⟩ := tm_of h
  rw [nm_nat hn]; exact pT_fin ⟨n, by omega⟩
theorem pTfrom_sound {s : Txt} : ∀ {f t : Nat} {r : Int}, pTfrom s f t = (r, true) → ∃ n : Nat, r = (n : Int) ∧ n < t + f ∧ nmN n = s
  | 0, _, _, h => by unfold pTfrom at h; simp at h
  | f + 1, t, r, h => by
    by_cases e : nmN t = s
    · rw [pTfrom_hit e] at h
      simp only [Prod.mk.injEq, and_true] at h
      exact ⟨t, h.symm, by omega, e⟩
    · rw [pTfrom_next e] at h
      obtain ⟨n, h1, h2, h3⟩ := pTfrom_sound h
      exact ⟨n, h1, by omega, h3⟩
theorem pTfrom_no {s : Txt} : ∀ {f t : Nat}, (pTfrom s f t).2 = false → pTfrom s f t = (0, false)
  | 0, _, _ => rfl
  | f + 1, t, h => by
    by_cases e : nmN t = s
    · rw [pTfrom_hit e] at h; cases h
    · rw [pTfrom_next e] at h ⊢; exact pTfrom_no h
theorem pT_sound {s : Txt} {t : Int} (h : pT s = (t, true)) : tmB t = true ∧ nm t = s := by
  obtain ⟨n, rfl, h2, h3⟩ := pTfrom_sound h
  exact ⟨(tmB_iff _).2 (by omega), by rw [nm_nat (by omega)]; exact h3⟩
theorem pT_no {s : Txt} (h : (pT s).2 = false) : pT s = (0, false) := pTfrom_no h
theorem pT_len {s : Txt} (h : (pT s).2 = true) : s.length ≤ 3 := by
  obtain ⟨_, h2⟩ := pT_sound (show pT s = ((pT s).1, true) from Prod.ext rfl h)
  rw [← h2]; exact nm_len _

/-! ### Facts -/
def sg (e : Bool) : Txt := if e then [61] else [33, 61]
def txF (f : Fct) : Txt := nm f.a ++ sg f.e ++ nm f.b
def fmtF (f : Fct) : Txt := if fv f then txF f else []
def noF : Fct := ⟨false, 0, 0⟩
def pF2 (e : Bool) (l r : Txt) : Fct × Bool := if (pT l).2 && (pT r).2 then (⟨e, (pT l).1, (pT r).1⟩, true) else (noF, false)
def pF (s : Txt) : Fct × Bool := if (cut s [61]).2.2 then pF2 (!hasSuffix (cut s [61]).1 [33]) (trimSuffix (cut s [61]).1 [33]) (cut s [61]).2.1 else (noF, false)
theorem pF_fin : ∀ (e : Bool) (a b : Fin 9), pF (nmN a.val ++ sg e ++ nmN b.val) = (⟨e, (a.val : Int), (b.val : Int)⟩, true) := by decide +kernel
theorem fv_parts {f : Fct} (h : fv f = true) : tmB f.a = true ∧ tmB f.b = true := by unfold fv at h; rwa [Bool.and_eq_true] at h
theorem pF_txF {f : Fct} (h : fv f = true) : pF (txF f) = (f, true) := by
  obtain ⟨e, a, b⟩ := f
  obtain ⟨ha, hb⟩ := fv_parts h
  obtain ⟨n, rfl, hn⟩ := tm_of ha
  obtain ⟨m, rfl, hm⟩ := tm_of hb
  show pF (nm (n : Int) ++ sg e ++ nm (m : Int)) = _
  rw [nm_nat hn, nm_nat hm]
  exact pF_fin e ⟨n, by omega⟩ ⟨m, by omega⟩
theorem pF2_sound {e : Bool} {l r : Txt} {f : Fct} (h : pF2 e l r = (f, true)) : f.e = e ∧ fv f = true ∧ nm f.a = l ∧ nm f.b = r := by
  unfold pF2 at h
  split at h
  · rename_i hc
    rw [Bool.and_eq_true] at hc
    obtain ⟨h1, h2⟩ := pT_sound (show pT l = ((pT l).1, true) from Prod.ext rfl hc.1)
    obtain ⟨h3, h4⟩ := pT_sound (show pT r = ((pT r).1, true) from Prod.ext rfl hc.2)
    simp only [Prod.mk.injEq, and_true] at h
    subst h
    exact ⟨rfl, by unfold fv; rw [h1, h3]; rfl, h2, h4⟩
  · simp at h
theorem suffix_split {s p : Txt} (h : hasSuffix s p = true) : s = trimSuffix s p ++ p := by
  unfold trimSuffix
  rw [if_pos h]
  unfold hasSuffix at h
  obtain ⟨t, rfl⟩ := List.isSuffixOf_iff_suffix.1 h
  rw [List.length_append, Nat.add_sub_cancel, List.take_left]
theorem pF_sound {s : Txt} {f : Fct} (h : pF s = (f, true)) : fv f = true ∧ txF f = s := by
  unfold pF at h
  split at h
  · rename_i hc
    obtain ⟨he, hv, ha, hb⟩ := pF2_sound h
    have hs := cut_found (show cut s [61] = ((cut s [61]).1, (cut s [61]).2.1, true) from Prod.ext rfl (Prod.ext rfl hc))
    refine ⟨hv, ?_⟩
    unfold txF
    rw [ha, hb, he]
    cases hq : hasSuffix (cut s [61]).1 [33] with
    | true =>
      have h2 := suffix_split hq
      conv => rhs; rw [hs, h2]
      simp [sg]
    | false =>
      have h2 : trimSuffix (cut s [61]).1 [33] = (cut s [61]).1 := by unfold trimSuffix; rw [hq]; rfl
      rw [h2]
      conv => rhs; rw [hs]
      simp [sg]
  · simp at h
theorem pF_no {s : Txt} (h : (pF s).2 = false) : pF s = (noF, false) := by
  unfold pF at h ⊢
  split
  · rename_i hc
    rw [if_pos hc] at h
    unfold pF2 at h ⊢
    split
    · rename_i h2; rw [if_pos h2] at h; cases h
    · rfl
  · rfl
theorem sg_len (e : Bool) : (sg e).length ≤ 2 := by cases e <;> simp [sg]
theorem txF_len (f : Fct) : (txF f).length ≤ 8 := by
  unfold txF
  have := nm_len f.a
  have := nm_len f.b
  have := sg_len f.e
  simp only [List.length_append]; omega
theorem pF_long {s : Txt} (h : 8 < s.length) : pF s = (noF, false) := by
  refine pF_no ?_
  rw [Bool.eq_false_iff]
  intro e
  obtain ⟨_, h2⟩ := pF_sound (show pF s = ((pF s).1, true) from Prod.ext rfl e)
  have := txF_len (pF s).1
  rw [h2] at this; omega
theorem txF_inj {f g : Fct} (hf : fv f = true) (hg : fv g = true) (h : txF f = txF g) : f = g := by
  have h1 := pF_txF hf
  rw [h, pF_txF hg] at h1
  exact (congrArg Prod.fst h1).symm
/-- The bytes of a fact's text. -/
theorem txF_mem {f : Fct} {c : UInt8} (h : c ∈ txF f) : 97 ≤ c ∨ c = 33 ∨ c = 61 := by
  unfold txF at h
  rw [List.mem_append, List.mem_append] at h
  rcases h with (h | h) | h
  · exact .inl (nm_low h)
  · cases he : f.e with
    | true => rw [he] at h; rw [List.mem_singleton.1 h]; exact .inr (.inr rfl)
    | false =>
      rw [he] at h
      rcases List.mem_cons.1 h with rfl | h
      · exact .inr (.inl rfl)
      · rw [List.mem_singleton.1 h]; exact .inr (.inr rfl)
  · exact .inl (nm_low h)
theorem txF_ne (f : Fct) : txF f ≠ [] := by
  unfold txF; cases f.e <;> simp [sg]

end Go.Proofs.YtinnopkeoohgeaaDoor.Pl
