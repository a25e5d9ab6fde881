/- The plain laws of states, as the statements ask for them. No conditions. -/
import Derived.Test.YtlcijjbeikoppaaPlainWays
namespace Go.Proofs.Ytlcijjbeikoppaa.Pl

/-! ### Assignments are local -/
structure SetLaw (v h rv rh : List Int) (t x : Int) : Prop where
  t0 : 1 ≤ t ∧ t ≤ 8
  s : stv ⟨v, h⟩ = true
  old : ∀ i, 0 ≤ i → i ≤ 8 → valueOf ⟨v, h⟩ i = (tval v i, true)
  new : ∀ i, 0 ≤ i → i ≤ 8 → valueOf ⟨rv, rh⟩ i = (if i = t then x else tval v i, true)
  back : setT ⟨rv, rh⟩ t (tval v t) = (⟨v, h⟩, true)
theorem set_law {v h rv rh : List Int} {t x : Int} (hr : ((⟨rv, rh⟩ : St), true) = setT ⟨v, h⟩ t x) : SetLaw v h rv rh t x := by
  have h2 : (setT ⟨v, h⟩ t x).2 = true := by rw [← hr]
  obtain ⟨hs, ht, hx⟩ := setT_ok.1 h2
  have he := setT_eq h2
  rw [← hr] at he
  injection he with he _
  injection he with e1 e2
  subst e1 e2
  have hs' := stv_setV hs (t - 1).toNat hx
  refine ⟨ht, hs, fun i h0 h8 => valueOf_mk hs ⟨h0, h8⟩, fun i h0 h8 => ?_, setT_back hs ht hx⟩
  rw [valueOf_mk hs' ⟨h0, h8⟩, tval_set (stv_v hs) ht ⟨h0, h8⟩]

/-! ### Reading and writing -/
structure RWLaw (v h : List Int) (a r n : Int) : Prop where
  same : writeC ⟨v, h⟩ a r = (⟨v, h⟩, true)
  wr : (writeC ⟨v, h⟩ a n).2 = true
  rd : readC (writeC ⟨v, h⟩ a n).1 a = (n, true)
theorem rw_law {v h : List Int} {a r n : Int} (hr : (r, true) = readC ⟨v, h⟩ a) (hn : 0 ≤ n ∧ n ≤ 8) : RWLaw v h a r n := by
  have h2 : (readC ⟨v, h⟩ a).2 = true := by rw [← hr]
  obtain ⟨hs, ha⟩ := readC_ok.1 h2
  rw [readC_mk hs ha] at hr
  injection hr with hr _
  have hv : vlB r = true := by
    rw [hr, vlB_iff]
    have h1 := (hasB_iff _ _).1 ha
    have h3 := (stv_cont hs a).2
    exact ⟨h1, h3⟩
  have hn' := (vlB_iff n).2 hn
  refine ⟨?_, by rw [writeC_mk hs ha hn'], ?_⟩
  · rw [writeC_mk hs ha hv, hr, write_same hs (has_ad ha)]
  · rw [writeC_mk hs ha hn', read_write hs ha hn', if_pos rfl]
structure WriteLaw (v h rv rh : List Int) (a x : Int) : Prop where
  rd : ∀ i, readC ⟨rv, rh⟩ i = if i = a then (x, true) else readC ⟨v, h⟩ i
  was : (readC ⟨v, h⟩ a).2 = true
theorem write_law {v h rv rh : List Int} {a x : Int} (hr : ((⟨rv, rh⟩ : St), true) = writeC ⟨v, h⟩ a x) : WriteLaw v h rv rh a x := by
  have h2 : (writeC ⟨v, h⟩ a x).2 = true := by rw [← hr]
  obtain ⟨hs, ha, hx⟩ := writeC_ok.1 h2
  rw [writeC_mk hs ha hx] at hr
  injection hr with he _
  injection he with e1 e2
  subst e1 e2
  exact ⟨fun i => read_write hs ha hx i, readC_ok.2 ⟨hs, ha⟩⟩
structure FreeLaw (v h rv rh : List Int) (a : Int) : Prop where
  rd : ∀ i, readC ⟨rv, rh⟩ i = if i = a then (0, false) else readC ⟨v, h⟩ i
  wr : writeC ⟨rv, rh⟩ a 0 = (emp, false)
  fr : freeC ⟨rv, rh⟩ a = (emp, false)
  us : ∀ x, x ∈ usedC ⟨v, h⟩ → (readC ⟨v, h⟩ x).2 = true
theorem free_law {v h rv rh : List Int} {a : Int} (hr : ((⟨rv, rh⟩ : St), true) = freeC ⟨v, h⟩ a) : FreeLaw v h rv rh a := by
  have h2 : (freeC ⟨v, h⟩ a).2 = true := by rw [← hr]
  obtain ⟨hs, ha⟩ := freeC_ok.1 h2
  rw [freeC_mk hs ha] at hr
  injection hr with he _
  injection he with e1 e2
  subst e1 e2
  have hf : hasB (h.set (a - 1).toNat (-1)) a = false := by rw [has_set (stv_h hs) (has_ad ha), if_pos rfl]; rfl
  exact ⟨fun i => read_free hs ha i, writeC_no hf, freeC_no hf, fun x hx => readC_ok.2 ⟨hs, (mem_usedC hs).1 hx⟩⟩
structure AllocLaw (v h rv rh : List Int) (n : Int) : Prop where
  no : readC ⟨v, h⟩ n = (0, false)
  back : freeC ⟨rv, rh⟩ n = (⟨v, h⟩, true)
  len : (usedC ⟨rv, rh⟩).length = (usedC ⟨v, h⟩).length + 1
  n0 : 1 ≤ n ∧ n ≤ 8
  low : ∀ i, 1 ≤ i → i < n → i ∈ usedC ⟨v, h⟩
  out : n ∉ usedC ⟨v, h⟩
theorem alloc_law {v h rv rh : List Int} {n : Int} (hr : ((⟨rv, rh⟩ : St), n, true) = allocC ⟨v, h⟩) : AllocLaw v h rv rh n := by
  cases hs : stv ⟨v, h⟩ with
  | false => rw [allocC_bad hs] at hr; injection hr with _ hr; injection hr with _ hr; cases hr
  | true =>
    rcases free_or h with ⟨m, hf⟩ | hf
    · rw [allocC_some hs hf] at hr
      injection hr with he hr
      injection hr with hn _
      injection he with e1 e2
      subst e1 e2 hn
      obtain ⟨a1, a2, a3, a4⟩ := alloc_free hs hf
      obtain ⟨f1, f2, f3⟩ := hf
      refine ⟨a1, a2, a3, by omega, fun i h1 h2 => ?_, fun hm => ?_⟩
      · rw [mem_usedC hs]
        have := f2 i.toNat (by omega) (by omega)
        rwa [Int.toNat_of_nonneg (by omega)] at this
      · rw [mem_usedC hs] at hm; exact absurd (hm.symm.trans f3) (by simp)
    · rw [allocC_none (s := ⟨v, h⟩) hf] at hr; injection hr with _ hr; injection hr with _ hr; cases hr
theorem alloc_full {v h : List Int} {r : St} {n : Int} (hr : (r, n, false) = allocC ⟨v, h⟩) (hs : stv ⟨v, h⟩ = true) : (usedC ⟨v, h⟩).length = 8 := by
  rcases free_or h with ⟨m, hf⟩ | hf
  · rw [allocC_some hs hf] at hr; injection hr with _ hr; injection hr with _ hr; cases hr
  · exact full_used (s := ⟨v, h⟩) hs hf
theorem used_read (s : St) (n : Int) : (readC s n).2 = decide (n ∈ usedC s) := by
  cases hs : stv s with
  | false =>
    have h1 : (readC s n).2 = false := by unfold readC; rw [hs]; rfl
    have h2 : usedC s = [] := by unfold usedC; rw [hs]; rfl
    rw [h1, h2]; simp
  | true =>
    rw [Bool.eq_iff_iff, readC_ok, decide_eq_true_iff, mem_usedC hs]
    exact ⟨fun h => h.2, fun h => ⟨hs, h⟩⟩

/-! ### Ways -/
structure WayLaw (v h l : List Int) (a b : Int) : Prop where
  len : l.length ≤ 8
  at_ : ∀ i (hi : i < l.length), l[i] = it h i a
  rd : ∀ i (hi : i < l.length), readC ⟨v, h⟩ l[i] = (it h (i + 1) a, true)
  ne : ∀ i, i < l.length → it h i a ≠ b
  fin : it h l.length a = b
  ap : ∀ i j (hi : i < l.length) (hj : j < l.length), i < j → l[i] ≠ l[j]
  p1 : ∀ k (hk : k < l.length), walkC ⟨v, h⟩ a l[k] = (l.take k, true)
  p2 : ∀ k (hk : k < l.length), walkC ⟨v, h⟩ l[k] b = (l.drop k, true)
theorem way_law {v h l : List Int} {a b : Int} (hr : (l, true) = walkC ⟨v, h⟩ a b) : WayLaw v h l a b := by
  have h2 : (walkC ⟨v, h⟩ a b).2 = true := by rw [← hr]
  obtain ⟨n, hn, hw, he, hs, ha, hb⟩ := walkC_eq h2
  rw [← hr] at he
  injection he with he _
  subst he
  have hl := trail_len h a n
  have hw' : IsWay h a b n := hw
  have hg : ∀ i (hi : i < (trail h a n).length), (trail h a n)[i] = it h i a := fun i hi => trail_get h a n i hi
  refine ⟨by rw [hl]; exact hn, hg, fun i hi => ?_, fun i hi => hw'.ne i (by rw [hl] at hi; exact hi), by rw [hl]; exact hw'.fin, fun i j hi hj hij => ?_, fun k hk => ?_, fun k hk => ?_⟩
  · rw [hg i hi, it_succ]
    exact readC_mk hs (hw'.has i (by rw [hl] at hi; exact hi))
  · rw [hg i hi, hg j hj]
    exact hw'.apart hij (by rw [hl] at hj; omega)
  · have hp := way_parts hs ha hb hw' hn (k := k) (by rw [hl] at hk; exact hk)
    rw [hg k hk]
    have e : (trail h a n).take k = trail h a k := by
      rw [← hp.2.2, List.take_append_of_le_length (by rw [trail_len]; exact Nat.le_refl _), List.take_of_length_le (by rw [trail_len]; exact Nat.le_refl _)]
    rw [e]; exact hp.1
  · have hp := way_parts hs ha hb hw' hn (k := k) (by rw [hl] at hk; exact hk)
    rw [hg k hk]
    have e : (trail h a n).drop k = trail h (it h k a) (n - k) := by
      rw [← hp.2.2, List.drop_append_of_le_length (by rw [trail_len]; exact Nat.le_refl _), List.drop_of_length_le (by rw [trail_len]; exact Nat.le_refl _), List.nil_append]
    rw [e]; exact hp.2.1

end Go.Proofs.Ytlcijjbeikoppaa.Pl
