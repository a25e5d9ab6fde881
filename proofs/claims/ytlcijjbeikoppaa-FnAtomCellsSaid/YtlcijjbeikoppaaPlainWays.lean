/- The plain laws of states: what is written is read, what is allocated is freed, ways compose. No conditions. -/
import Derived.Test.YtlcijjbeikoppaaPlainStates
namespace Go.Proofs.Ytlcijjbeikoppaa.Pl

theorem stv_v {s : St} (h : stv s = true) : s.v.length = 8 := ((stv_iff s).1 h).1.1
theorem stv_h {s : St} (h : stv s = true) : s.h.length = 8 := ((stv_iff s).1 h).1.2
theorem stv_val {s : St} (h : stv s = true) {t : Int} (ht : tmB t = true) : 0 ≤ tval s.v t ∧ tval s.v t ≤ 8 := by
  unfold tval
  rw [tmB_iff] at ht
  split
  · omega
  · have hl : (t - 1).toNat < s.v.length := by rw [stv_v h]; omega
    rw [List.getD_eq_getElem?_getD, List.getElem?_eq_getElem hl]
    have := ((stv_iff s).1 h).2.1 _ (List.getElem_mem hl)
    rw [vlB_iff] at this; exact this
theorem stv_cont {s : St} (h : stv s = true) (a : Int) : -1 ≤ cont s.h a ∧ cont s.h a ≤ 8 := by
  cases ha : adB a with
  | false => rw [cont_out ha]; omega
  | true =>
    rw [adB_iff] at ha
    obtain ⟨n, rfl⟩ : ∃ n : Nat, a = (n : Int) + 1 := ⟨(a - 1).toNat, by omega⟩
    have hl : n < s.h.length := by rw [stv_h h]; omega
    rw [cont_in hl (stv_h h)]
    have := ((stv_iff s).1 h).2.2 _ (List.getElem_mem hl)
    rw [clB_iff] at this; exact this
theorem mem_set {l : List Int} {i : Nat} {x y : Int} (h : y ∈ l.set i x) : y = x ∨ y ∈ l := by
  rcases List.mem_or_eq_of_mem_set h with h | h
  · exact .inr h
  · exact .inl h
theorem stv_setV {s : St} (h : stv s = true) (i : Nat) {x : Int} (hx : vlB x = true) : stv ⟨s.v.set i x, s.h⟩ = true := by
  rw [stv_iff] at h ⊢
  refine ⟨⟨by simp [h.1.1], h.1.2⟩, fun n hn => ?_, h.2.2⟩
  rcases mem_set hn with rfl | hn
  · exact hx
  · exact h.2.1 n hn
theorem stv_setH {s : St} (h : stv s = true) (i : Nat) {x : Int} (hx : clB x = true) : stv ⟨s.v, s.h.set i x⟩ = true := by
  rw [stv_iff] at h ⊢
  refine ⟨⟨h.1.1, by simp [h.1.2]⟩, h.2.1, fun n hn => ?_⟩
  rcases mem_set hn with rfl | hn
  · exact hx
  · exact h.2.2 n hn
theorem vl_cl {x : Int} (h : vlB x = true) : clB x = true := by rw [vlB_iff] at h; rw [clB_iff]; omega
theorem tval_set {v : List Int} {t x i : Int} (h8 : v.length = 8) (ht : 1 ≤ t ∧ t ≤ 8) (hi : 0 ≤ i ∧ i ≤ 8) : tval (v.set (t - 1).toNat x) i = if i = t then x else tval v i := by
  unfold tval
  by_cases h0 : i = 0
  · rw [if_pos h0, if_pos h0, if_neg (by omega)]
  · rw [if_neg h0, if_neg h0, List.getD_eq_getElem?_getD, List.getD_eq_getElem?_getD, List.getElem?_set]
    by_cases e : i = t
    · subst e; rw [if_pos rfl, if_pos rfl, if_pos (by omega)]; rfl
    · rw [if_neg e, if_neg (by omega)]
theorem set_back {l : List Int} {i : Nat} (x : Int) (hi : i < l.length) : (l.set i x).set i (l.getD i 0) = l := by
  rw [List.set_set, List.getD_eq_getElem?_getD, List.getElem?_eq_getElem hi]
  exact List.set_getElem_self hi
theorem setT_ok {s : St} {t x : Int} : (setT s t x).2 = true ↔ stv s = true ∧ (1 ≤ t ∧ t ≤ 8) ∧ vlB x = true := by
  unfold setT
  cases hs : stv s <;> cases hx : vlB x <;> by_cases h0 : t = 0 <;> cases ht : tmB t <;> simp [h0]
  all_goals first
    | omega
    | (rw [tmB_iff] at ht; omega)
    | (have : ¬ (0 ≤ t ∧ t ≤ 8) := (fun k => by rw [(tmB_iff t).2 k] at ht; cases ht)
       omega)
theorem setT_eq {s : St} {t x : Int} (h : (setT s t x).2 = true) : setT s t x = (⟨s.v.set (t - 1).toNat x, s.h⟩, true) := by
  unfold setT at h ⊢; split at h
  · rename_i hh; rw [if_pos hh]
  · cases h
theorem setT_mk {s : St} {t x : Int} (hs : stv s = true) (ht : 1 ≤ t ∧ t ≤ 8) (hx : vlB x = true) : setT s t x = (⟨s.v.set (t - 1).toNat x, s.h⟩, true) :=
  setT_eq (setT_ok.2 ⟨hs, ht, hx⟩)
/-- An assignment undone. -/
theorem setT_back {s : St} {t x : Int} (hs : stv s = true) (ht : 1 ≤ t ∧ t ≤ 8) (hx : vlB x = true) : setT ⟨s.v.set (t - 1).toNat x, s.h⟩ t (tval s.v t) = (s, true) := by
  have hv := stv_val hs (t := t) ((tmB_iff t).2 (by omega))
  rw [setT_mk (stv_setV hs _ hx) ht ((vlB_iff _).2 hv)]
  have : tval s.v t = s.v.getD (t - 1).toNat 0 := by unfold tval; rw [if_neg (by omega)]
  rw [this, set_back x (by rw [stv_v hs]; omega)]
theorem valueOf_mk {s : St} {t : Int} (hs : stv s = true) (ht : 0 ≤ t ∧ t ≤ 8) : valueOf s t = (tval s.v t, true) := by
  unfold valueOf; rw [hs, (tmB_iff t).2 ht]; rfl

theorem readC_ok {s : St} {a : Int} : (readC s a).2 = true ↔ stv s = true ∧ hasB s.h a = true := by
  unfold readC; cases stv s <;> cases hasB s.h a <;> simp
theorem readC_mk {s : St} {a : Int} (hs : stv s = true) (ha : hasB s.h a = true) : readC s a = (cont s.h a, true) := by unfold readC; rw [hs, ha]; rfl
theorem readC_no {s : St} {a : Int} (ha : hasB s.h a = false) : readC s a = (0, false) := by unfold readC; rw [ha]; simp
theorem writeC_ok {s : St} {a x : Int} : (writeC s a x).2 = true ↔ stv s = true ∧ hasB s.h a = true ∧ vlB x = true := by
  unfold writeC; cases stv s <;> cases hasB s.h a <;> cases vlB x <;> simp
theorem writeC_mk {s : St} {a x : Int} (hs : stv s = true) (ha : hasB s.h a = true) (hx : vlB x = true) : writeC s a x = (⟨s.v, s.h.set (a - 1).toNat x⟩, true) := by unfold writeC; rw [hs, ha, hx]; rfl
theorem writeC_eq {s : St} {a x : Int} (h : (writeC s a x).2 = true) : writeC s a x = (⟨s.v, s.h.set (a - 1).toNat x⟩, true) := by
  obtain ⟨h1, h2, h3⟩ := writeC_ok.1 h; exact writeC_mk h1 h2 h3
theorem writeC_no {s : St} {a x : Int} (ha : hasB s.h a = false) : writeC s a x = (emp, false) := by unfold writeC; rw [ha]; simp
theorem freeC_ok {s : St} {a : Int} : (freeC s a).2 = true ↔ stv s = true ∧ hasB s.h a = true := by
  unfold freeC; cases stv s <;> cases hasB s.h a <;> simp
theorem freeC_mk {s : St} {a : Int} (hs : stv s = true) (ha : hasB s.h a = true) : freeC s a = (⟨s.v, s.h.set (a - 1).toNat (-1)⟩, true) := by unfold freeC; rw [hs, ha]; rfl
theorem freeC_no {s : St} {a : Int} (ha : hasB s.h a = false) : freeC s a = (emp, false) := by unfold freeC; rw [ha]; simp
theorem has_set {h : List Int} {a b x : Int} (h8 : h.length = 8) (ha : 1 ≤ a ∧ a ≤ 8) : hasB (h.set (a - 1).toNat x) b = if b = a then decide (0 ≤ x) else hasB h b := by
  unfold hasB; rw [cont_set h8 ha]; split <;> rfl
theorem cont_getD {h : List Int} {a : Int} (ha : 1 ≤ a ∧ a ≤ 8) : cont h a = h.getD (a - 1).toNat 0 := by unfold cont; rw [if_pos ((adB_iff a).2 ha)]
theorem write_back {s : St} {a : Int} (hs : stv s = true) (ha : 1 ≤ a ∧ a ≤ 8) (x : Int) : (s.h.set (a - 1).toNat x).set (a - 1).toNat (cont s.h a) = s.h := by
  rw [cont_getD ha, set_back x (by rw [stv_h hs]; omega)]
theorem write_same {s : St} {a : Int} (hs : stv s = true) (ha : 1 ≤ a ∧ a ≤ 8) : s.h.set (a - 1).toNat (cont s.h a) = s.h := by
  have := write_back hs ha (cont s.h a); rw [List.set_set] at this; exact this

/-- Reading behind a write. -/
theorem read_write {s : St} {a x : Int} (hs : stv s = true) (ha : hasB s.h a = true) (hx : vlB x = true) (i : Int) :
    readC ⟨s.v, s.h.set (a - 1).toNat x⟩ i = if i = a then (x, true) else readC s i := by
  have h8 := has_ad ha
  have hs' := stv_setH hs (a - 1).toNat (vl_cl hx)
  have hx0 := (vlB_iff x).1 hx
  unfold readC
  rw [hs, hs', has_set (stv_h hs) h8, cont_set (stv_h hs) h8]
  by_cases e : i = a
  · subst e; rw [if_pos rfl, if_pos rfl, if_pos rfl, decide_eq_true hx0.1]; rfl
  · rw [if_neg e, if_neg e, if_neg e]
theorem read_free {s : St} {a : Int} (hs : stv s = true) (ha : hasB s.h a = true) (i : Int) :
    readC ⟨s.v, s.h.set (a - 1).toNat (-1)⟩ i = if i = a then (0, false) else readC s i := by
  have h8 := has_ad ha
  have hs' := stv_setH hs (a - 1).toNat (x := -1) (by decide)
  unfold readC
  rw [hs, hs', has_set (stv_h hs) h8, cont_set (stv_h hs) h8]
  by_cases e : i = a
  · subst e; rw [if_pos rfl, if_pos rfl, if_pos rfl]; rfl
  · rw [if_neg e, if_neg e, if_neg e]

/-! ### Allocation -/
theorem allocC_some {s : St} {n : Nat} (hs : stv s = true) (hf : isFree s.h n) : allocC s = (⟨s.v, s.h.set (n - 1) 0⟩, (n : Int), true) := by
  unfold allocC; rw [hs, afree_some hf]; rfl
theorem allocC_none {s : St} (hf : isFull s.h) : allocC s = (emp, 0, false) := by
  unfold allocC; rw [afree_none hf]; simp
theorem allocC_bad {s : St} (hs : stv s = false) : allocC s = (emp, 0, false) := by unfold allocC; rw [hs]; simp
theorem usedTo_set {h : List Int} {n : Nat} (h8 : h.length = 8) (hn : 1 ≤ n ∧ n ≤ 8) (hf : hasB h (n : Int) = false) (k : Nat) :
    (usedTo (h.set (n - 1) 0) k).length = (usedTo h k).length + if n ≤ k then 1 else 0 := by
  have hs : ∀ b : Int, hasB (h.set (n - 1) 0) b = if b = (n : Int) then true else hasB h b := by
    intro b
    have := has_set (x := 0) (b := b) h8 (a := (n : Int)) (by omega)
    rw [show ((n : Int) - 1).toNat = n - 1 from by omega] at this
    rw [this]; rfl
  induction k with
  | zero => unfold usedTo; rw [if_neg (by omega)]; rfl
  | succ k ih =>
    unfold usedTo
    rw [List.length_append, List.length_append, ih, hs]
    by_cases e : (k : Int) + 1 = (n : Int)
    · have e2 : ¬ n ≤ k := by omega
      have e3 : n ≤ k + 1 := by omega
      rw [if_pos e, e, hf, if_neg e2, if_pos e3]; simp
    · have hiff : n ≤ k + 1 ↔ n ≤ k := by omega
      rw [if_neg e]; simp only [hiff]; omega
/-- What is allocated first is freed again. -/
theorem alloc_free {s : St} {n : Nat} (hs : stv s = true) (hf : isFree s.h n) :
    readC s (n : Int) = (0, false) ∧ freeC ⟨s.v, s.h.set (n - 1) 0⟩ (n : Int) = (s, true) ∧ (usedC ⟨s.v, s.h.set (n - 1) 0⟩).length = (usedC s).length + 1 ∧ stv ⟨s.v, s.h.set (n - 1) 0⟩ = true := by
  obtain ⟨hn, hl, hno⟩ := hf
  have hs' := stv_setH hs (n - 1) (x := 0) (by decide)
  have h8 := stv_h hs
  refine ⟨readC_no hno, ?_, ?_, hs'⟩
  · have hh : hasB (s.h.set (n - 1) 0) (n : Int) = true := by
      have := has_set (x := 0) (b := (n : Int)) h8 (a := (n : Int)) (by omega)
      rw [show ((n : Int) - 1).toNat = n - 1 from by omega, if_pos rfl] at this
      exact this
    rw [freeC_mk hs' hh]
    have hc : cont s.h (n : Int) = -1 := by
      have h1 := stv_cont hs (n : Int)
      have h2 := (hasB_false _ _).1 hno
      omega
    have hb := write_back hs (a := (n : Int)) (by omega) 0
    rw [show ((n : Int) - 1).toNat = n - 1 from by omega] at hb ⊢
    rw [hc] at hb
    show (({ v := s.v, h := (s.h.set (n - 1) 0).set (n - 1) (-1) } : St), true) = (s, true)
    rw [hb]
  · unfold usedC; rw [if_pos hs, if_pos hs', usedTo_set h8 hn hno, if_pos (by omega)]
theorem full_used {s : St} (hs : stv s = true) (hf : isFull s.h) : (usedC s).length = 8 := by
  unfold usedC; rw [if_pos hs]
  have aux : ∀ k : Nat, k ≤ 8 → (usedTo s.h k).length = k := by
    intro k
    induction k with
    | zero => intro _; simp [usedTo]
    | succ k ih =>
      intro hk
      unfold usedTo
      rw [List.length_append, ih (by omega), show ((k : Int) + 1) = ((k + 1 : Nat) : Int) from rfl, hf (k + 1) (by omega) hk]; simp
  exact aux 8 (Nat.le_refl _)

/-! ### Ways -/
def it (h : List Int) : Nat → Int → Int
  | 0, a => a
  | n + 1, a => it h n (cont h a)
theorem it_add (h : List Int) (m n : Nat) (a : Int) : it h (m + n) a = it h n (it h m a) := by
  induction m generalizing a with
  | zero => rw [Nat.zero_add]; rfl
  | succ m ih => rw [show m + 1 + n = (m + n) + 1 from by omega]; exact ih (cont h a)
theorem it_succ (h : List Int) (n : Nat) (a : Int) : it h (n + 1) a = cont h (it h n a) := it_add h n 1 a
structure IsWay (h : List Int) (a b : Int) (n : Nat) : Prop where
  fin : it h n a = b
  has : ∀ i, i < n → hasB h (it h i a) = true
  ne : ∀ i, i < n → it h i a ≠ b
def trail (h : List Int) (a : Int) (n : Nat) : List Int := (List.range n).map fun i => it h i a
theorem trail_len (h : List Int) (a : Int) (n : Nat) : (trail h a n).length = n := by simp [trail]
theorem trail_get (h : List Int) (a : Int) (n i : Nat) (hi : i < (trail h a n).length) : (trail h a n)[i] = it h i a := by simp [trail]
theorem trail_cons (h : List Int) (a : Int) (n : Nat) : trail h a (n + 1) = a :: trail h (cont h a) n := by
  unfold trail; rw [List.range_succ_eq_map, List.map_cons, List.map_map]; rfl
theorem way_mk {h : List Int} {f : Nat} : ∀ {a b : Int} {n : Nat}, IsWay h a b n → n ≤ f → way h f a b = some (trail h a n) := by
  induction f with
  | zero =>
    intro a b n hw hn
    obtain rfl : n = 0 := by omega
    unfold way; rw [if_pos (show a = b from hw.fin)]; rfl
  | succ f ih =>
    intro a b n hw hn
    unfold way
    cases n with
    | zero => rw [if_pos (show a = b from hw.fin)]; rfl
    | succ n =>
      rw [if_neg (show ¬ a = b from hw.ne 0 (by omega)), if_pos (show hasB h a = true from hw.has 0 (by omega)), ih (n := n) ⟨hw.fin, fun i hi => hw.has (i + 1) (by omega), fun i hi => hw.ne (i + 1) (by omega)⟩ (by omega), trail_cons]; rfl
theorem way_is {h : List Int} {f : Nat} : ∀ {a b : Int} {l : List Int}, way h f a b = some l → IsWay h a b l.length ∧ l = trail h a l.length := by
  induction f with
  | zero =>
    intro a b l hw
    unfold way at hw; split at hw
    · injection hw with hw; subst hw; exact ⟨⟨by assumption, fun i hi => absurd hi (Nat.not_lt_zero i), fun i hi => absurd hi (Nat.not_lt_zero i)⟩, rfl⟩
    · cases hw
  | succ f ih =>
    intro a b l hw
    unfold way at hw; split at hw
    · injection hw with hw; subst hw; exact ⟨⟨by assumption, fun i hi => absurd hi (Nat.not_lt_zero i), fun i hi => absurd hi (Nat.not_lt_zero i)⟩, rfl⟩
    · rename_i hne
      split at hw
      · rename_i hh
        cases hq : way h f (cont h a) b with
        | none => rw [hq] at hw; cases hw
        | some m =>
          rw [hq] at hw
          injection hw with hw
          subst hw
          obtain ⟨h1, h2⟩ := ih hq
          refine ⟨⟨h1.fin, fun i hi => ?_, fun i hi => ?_⟩, ?_⟩
          · cases i with
            | zero => exact hh
            | succ i => exact h1.has i (by simpa using hi)
          · cases i with
            | zero => exact hne
            | succ i => exact h1.ne i (by simpa using hi)
          · rw [List.length_cons, trail_cons, ← h2]
      · cases hw
/-- The addresses on a way are different ones. -/
theorem IsWay.apart {h : List Int} {a b : Int} {n : Nat} (k : IsWay h a b n) {i j : Nat} (hij : i < j) (hj : j ≤ n) : it h i a ≠ it h j a := by
  intro e
  have h1 : it h (i + (n - j)) a = b := by
    rw [it_add, e, ← it_add, show j + (n - j) = n from by omega]; exact k.fin
  exact k.ne _ (by omega) h1
theorem walkC_eq {s : St} {a b : Int} (h : (walkC s a b).2 = true) : ∃ n, n ≤ 8 ∧ IsWay s.h a b n ∧ walkC s a b = (trail s.h a n, true) ∧ stv s = true ∧ vlB a = true ∧ vlB b = true := by
  unfold walkC at h ⊢
  cases hs : stv s <;> cases ha : vlB a <;> cases hb : vlB b <;> rw [hs, ha, hb] at h <;> try (simp at h)
  simp only [Bool.and_self, if_true]
  cases hw : way s.h 8 a b with
  | none => rw [hw] at h; simp at h
  | some l =>
    obtain ⟨h1, h2⟩ := way_is hw
    refine ⟨l.length, way_len hw, h1, by rw [← h2], ?_, ?_, ?_⟩ <;> first | rfl | trivial
theorem walkC_mk {s : St} {a b : Int} {n : Nat} (hs : stv s = true) (ha : vlB a = true) (hb : vlB b = true) (hw : IsWay s.h a b n) (hn : n ≤ 8) : walkC s a b = (trail s.h a n, true) := by
  unfold walkC; rw [hs, ha, hb, way_mk hw hn]; rfl
theorem has_vl {h : List Int} {a : Int} (k : hasB h a = true) : vlB a = true := by
  have := has_ad k; rw [vlB_iff]; omega
/-- A way is the way to each of its addresses, and on from there. -/
theorem way_parts {s : St} {a b : Int} {n k : Nat} (hs : stv s = true) (ha : vlB a = true) (hb : vlB b = true) (hw : IsWay s.h a b n) (hn : n ≤ 8) (hk : k < n) :
    walkC s a (it s.h k a) = (trail s.h a k, true) ∧ walkC s (it s.h k a) b = (trail s.h (it s.h k a) (n - k), true) ∧ trail s.h a k ++ trail s.h (it s.h k a) (n - k) = trail s.h a n := by
  refine ⟨walkC_mk hs ha (has_vl (hw.has k hk)) ⟨rfl, fun i hi => hw.has i (by omega), fun i hi => hw.apart hi (by omega)⟩ (by omega),
    walkC_mk hs (has_vl (hw.has k hk)) hb ⟨by rw [← it_add, show k + (n - k) = n from by omega]; exact hw.fin, fun i hi => by rw [← it_add]; exact hw.has _ (by omega), fun i hi => by rw [← it_add]; exact hw.ne _ (by omega)⟩ (by omega), ?_⟩
  unfold trail
  conv => rhs; rw [show n = k + (n - k) from by omega, List.range_add, List.map_append, List.map_map]
  congr 1
  apply List.map_congr_left
  intro i _
  exact (it_add _ _ _ _).symm

/-! ### Lengths of results -/
theorem setT_len (s : St) (t x : Int) {n : Nat} (h1 : s.v.length ≤ n) (h2 : s.h.length ≤ n) : (setT s t x).1.v.length ≤ n ∧ (setT s t x).1.h.length ≤ n := by
  unfold setT; split <;> simp [h1, h2]
theorem writeC_len (s : St) (a x : Int) {n : Nat} (h1 : s.v.length ≤ n) (h2 : s.h.length ≤ n) : (writeC s a x).1.v.length ≤ n ∧ (writeC s a x).1.h.length ≤ n := by
  unfold writeC; split <;> simp [h1, h2]
theorem freeC_len (s : St) (a : Int) {n : Nat} (h1 : s.v.length ≤ n) (h2 : s.h.length ≤ n) : (freeC s a).1.v.length ≤ n ∧ (freeC s a).1.h.length ≤ n := by
  unfold freeC; split <;> simp [h1, h2]
theorem allocC_len (s : St) {n : Nat} (h1 : s.v.length ≤ n) (h2 : s.h.length ≤ n) : (allocC s).1.v.length ≤ n ∧ (allocC s).1.h.length ≤ n := by
  unfold allocC; split
  · cases afree s.h <;> simp [h1, h2]
  · simp

end Go.Proofs.Ytlcijjbeikoppaa.Pl
