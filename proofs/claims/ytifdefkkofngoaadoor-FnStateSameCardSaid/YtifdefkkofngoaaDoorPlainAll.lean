/- Cutting, splitting and joining of texts at a separator: plain lists of bytes. No conditions. -/
import Derived.Lib.SplitLaws
import Derived.Lib.Join
import Derived.Lib.ItoaNum
namespace Go.Proofs.YtifdefkkofngoaaDoor.Pl
open Go.Lib

abbrev Txt := List UInt8

/-- An instance at a place: what stands there. -/
theorem occ_iff {s sub : Txt} {i : Nat} : occAt s sub i = true ↔ ∃ t, s.drop i = sub ++ t := by
  unfold occAt
  rw [List.isPrefixOf_iff_prefix]
  exact ⟨fun ⟨t, h⟩ => ⟨t, h.symm⟩, fun ⟨t, h⟩ => ⟨t, h.symm⟩⟩
theorem occ_get {s sub : Txt} {i j : Nat} {c : UInt8} (h : occAt s sub i = true) (hj : sub[j]? = some c) : s[i + j]? = some c := by
  obtain ⟨t, ht⟩ := occ_iff.1 h
  rw [← List.getElem?_drop, ht, List.getElem?_append_left (List.getElem?_eq_some_iff.1 hj).1]
  exact hj
/-- A separator one of whose bytes the text ahead of it lacks, its other bytes ahead of that one being others. -/
theorem index_sep {x y sep : Txt} {c : UInt8} {j : Nat} (hx : c ∉ x) (hj : sep[j]? = some c) (hb : ∀ i, i < j → sep[i]? ≠ some c) : index (x ++ sep ++ y) sep = x.length := by
  refine index_first (by simp only [List.length_append]; omega) ?_ ?_
  · rw [occ_iff]; exact ⟨y, by rw [List.append_assoc, List.drop_left]⟩
  · intro k hk
    rw [Bool.eq_false_iff]
    intro h
    have h1 := occ_get h hj
    rw [List.append_assoc] at h1
    by_cases h2 : k + j < x.length
    · rw [List.getElem?_append_left h2] at h1
      exact hx (List.mem_of_getElem? h1)
    · rw [List.getElem?_append_right (by omega)] at h1
      have hjl : j < sep.length := (List.getElem?_eq_some_iff.1 hj).1
      rw [List.getElem?_append_left (by omega)] at h1
      exact hb _ (by omega) h1
theorem index_lack {s sep : Txt} {c : UInt8} {j : Nat} (hx : c ∉ s) (hj : sep[j]? = some c) : index s sep = -1 := by
  refine index_none fun k _ => ?_
  rw [Bool.eq_false_iff]
  intro h
  exact hx (List.mem_of_getElem? (occ_get h hj))
theorem index_hit {s sep : Txt} {i : Nat} (h : index s sep = i) : s = s.take i ++ sep ++ s.drop (i + sep.length) := by
  rcases index_spec s sep with ⟨h1, _⟩ | ⟨k, h1, h2, h3, _⟩
  · omega
  · obtain rfl : k = i := by omega
    obtain ⟨t, ht⟩ := occ_iff.1 h3
    have e : s.drop (k + sep.length) = t := by rw [← List.drop_drop, ht, List.drop_left]
    rw [e, List.append_assoc, ← ht, List.take_append_drop]
theorem cut_sep {x y sep : Txt} {c : UInt8} {j : Nat} (hx : c ∉ x) (hj : sep[j]? = some c) (hb : ∀ i, i < j → sep[i]? ≠ some c) : cut (x ++ sep ++ y) sep = (x, y, true) := by
  unfold cut
  rw [index_sep hx hj hb, if_pos (by omega)]
  simp only [Int.toNat_natCast, Prod.mk.injEq, and_true]
  exact ⟨by rw [List.append_assoc, List.take_left], by rw [← List.length_append, List.drop_left]⟩
theorem cut_lack {s sep : Txt} {c : UInt8} {j : Nat} (hx : c ∉ s) (hj : sep[j]? = some c) : cut s sep = (s, [], false) := by
  unfold cut
  rw [index_lack hx hj, if_neg (by omega)]
theorem cut_found {s sep x y : Txt} (h : cut s sep = (x, y, true)) : s = x ++ sep ++ y := by
  unfold cut at h
  split at h
  · rename_i h0
    simp only [Prod.mk.injEq, and_true] at h
    obtain ⟨rfl, rfl⟩ := h
    exact index_hit (by omega)
  · simp at h

/-! ### Splitting and joining -/
theorem splitK_one (sep s : Txt) (k : Nat) (h : index s sep = -1) : splitK sep 0 k s = [s] := by
  cases k with
  | zero => rfl
  | succ k => unfold splitK; rw [if_pos (by rw [h]; rfl)]
theorem splitK_hit {sep s : Txt} {k i : Nat} (h : index s sep = i) : splitK sep 0 (k + 1) s = s.take i :: splitK sep 0 k (s.drop (i + sep.length)) := by
  conv => lhs; unfold splitK
  rw [if_neg (by rw [h]; simp), h]
  simp
theorem join_two (p q : Txt) (l : List Txt) (sep : Txt) : join (p :: q :: l) sep = p ++ sep ++ join (q :: l) sep := by
  rw [join_cons p, join_cons q]; simp [joinTail, List.append_assoc]
theorem split_join {sep : Txt} {c : UInt8} {j : Nat} (hj : sep[j]? = some c) (hb : ∀ i, i < j → sep[i]? ≠ some c) :
    ∀ (ps : List Txt), ps ≠ [] → (∀ p ∈ ps, c ∉ p) → count (join ps sep) sep = ps.length - 1 ∧ splitK sep 0 (ps.length - 1) (join ps sep) = ps
  | [], h, _ => absurd rfl h
  | [p], _, hp => by
    rw [join_one]
    have := index_lack (hp p (by simp)) hj
    exact ⟨by rw [count_miss this]; rfl, rfl⟩
  | p :: q :: l, _, hp => by
    have hne : sep ≠ [] := by rintro rfl; simp at hj
    obtain ⟨h1, h2⟩ := split_join hj hb (q :: l) (by simp) (fun x hx => hp x (List.mem_cons_of_mem _ hx))
    have hi : index (p ++ sep ++ join (q :: l) sep) sep = p.length := index_sep (hp p (by simp)) hj hb
    have hd : (p ++ sep ++ join (q :: l) sep).drop (p.length + sep.length) = join (q :: l) sep := by rw [← List.length_append, List.drop_left]
    rw [join_two]
    constructor
    · rw [count_hit hne hi, hd, h1]; simp only [List.length_cons]; omega
    · show splitK sep 0 (l.length + 1) _ = _
      rw [splitK_hit hi, hd, List.append_assoc, List.take_left]
      simp only [List.length_cons, Nat.add_sub_cancel] at h2
      rw [h2]
theorem split_of_join {sep : Txt} {c : UInt8} {j : Nat} (hj : sep[j]? = some c) (hb : ∀ i, i < j → sep[i]? ≠ some c) {ps : List Txt} (h0 : ps ≠ []) (hp : ∀ p ∈ ps, c ∉ p) : split (join ps sep) sep = ps := by
  obtain ⟨h1, h2⟩ := split_join hj hb ps h0 hp
  unfold split; rw [h1, h2]
theorem splitK_ne (sep : Txt) (k : Nat) (s : Txt) : splitK sep 0 k s ≠ [] := by
  cases k with
  | zero => simp [splitK]
  | succ k => unfold splitK; split <;> simp
theorem join_splitK (sep : Txt) : ∀ (k : Nat) (s : Txt), join (splitK sep 0 k s) sep = s
  | 0, s => join_one s sep
  | k + 1, s => by
    rcases index_spec s sep with ⟨h1, _⟩ | ⟨i, h1, _, _, _⟩
    · rw [splitK_one sep s _ h1]; exact join_one s sep
    · rw [splitK_hit h1]
      have ih := join_splitK sep k (s.drop (i + sep.length))
      cases hq : splitK sep 0 k (s.drop (i + sep.length)) with
      | nil => exact absurd hq (splitK_ne _ _ _)
      | cons q l =>
        rw [join_two, ← hq, ih]
        exact (index_hit h1).symm
theorem join_split (s sep : Txt) : join (split s sep) sep = s := join_splitK sep _ s
theorem split_ne (s sep : Txt) : split s sep ≠ [] := splitK_ne sep _ s

/-! ### Texts as strings -/
def str (l : Txt) : ByteArray := ⟨l.toArray⟩
theorem str_data (l : Txt) : (str l).data.toList = l := by simp [str]
theorem data_str (s : ByteArray) : str s.data.toList = s := by simp [str]
theorem str_inj {a b : Txt} (h : str a = str b) : a = b := by rw [← str_data a, h, str_data]
theorem str_size (l : Txt) : (str l).size = l.length := by simp [str, ByteArray.size]
theorem str_append (a b : Txt) : str a ++ str b = str (a ++ b) := by
  apply ByteArray.ext
  rw [ByteArray.data_append]
  simp [str]

end Go.Proofs.YtifdefkkofngoaaDoor.Pl

/- The plain mathematics of facts: classes of terms by relabelling, consistency and implication, with no program in sight. No conditions. -/
namespace Go.Proofs.YtifdefkkofngoaaDoor.Pl

/-- A fact: 'equal' or 'different', and two numbers. -/
structure Fct where
  e : Bool
  a : Int
  b : Int
deriving DecidableEq

def Tm (t : Int) : Prop := 0 ≤ t ∧ t ≤ 8
instance (t : Int) : Decidable (Tm t) := by unfold Tm; infer_instance
def tmB (t : Int) : Bool := decide (Tm t)
def fv (f : Fct) : Bool := tmB f.a && tmB f.b
def fsv (l : List Fct) : Bool := decide (l.length ≤ 12) && l.all fv

theorem tmB_iff (t : Int) : tmB t = true ↔ 0 ≤ t ∧ t ≤ 8 := by unfold tmB Tm; exact decide_eq_true_iff
theorem fv_iff (f : Fct) : fv f = true ↔ (0 ≤ f.a ∧ f.a ≤ 8) ∧ (0 ≤ f.b ∧ f.b ≤ 8) := by
  unfold fv; rw [Bool.and_eq_true, tmB_iff, tmB_iff]
theorem fsv_iff (l : List Fct) : fsv l = true ↔ l.length ≤ 12 ∧ ∀ f ∈ l, fv f = true := by
  unfold fsv; rw [Bool.and_eq_true, decide_eq_true_iff, List.all_eq_true]

/-- One fact's step on the classes: the greater class becomes the lesser one. -/
def stp (c : Nat → Nat) (f : Fct) : Nat → Nat :=
  if f.e then fun t => if c t = max (c f.a.toNat) (c f.b.toNat) then min (c f.a.toNat) (c f.b.toNat) else c t else c
def cls (l : List Fct) : Nat → Nat := l.foldl stp id
/-- No two terms that are different by m are equal by c. -/
def sep (c : Nat → Nat) (m : List Fct) : Bool := m.all fun f => f.e || !decide (c f.a.toNat = c f.b.toNat)
def neg (f : Fct) : Fct := ⟨!f.e, f.a, f.b⟩
def fcon (l : List Fct) : Bool := fsv l && sep (cls l) l
def fimp (l : List Fct) (f : Fct) : Bool := fsv l && fv f && !sep (cls (l ++ [neg f])) (l ++ [neg f])

theorem cls_nil (t : Nat) : cls [] t = t := rfl
theorem cls_snoc (l : List Fct) (f : Fct) : cls (l ++ [f]) = stp (cls l) f := by unfold cls; rw [List.foldl_append]; rfl

/-- The step looks at the class alone. -/
theorem stp_congr (c : Nat → Nat) (f : Fct) {x y : Nat} (h : c x = c y) : stp c f x = stp c f y := by
  unfold stp; split
  · simp only [h]
  · exact h

structure Good (c : Nat → Nat) : Prop where
  le : ∀ t, c t ≤ t
  idem : ∀ t, c (c t) = c t

theorem good_id : Good id := ⟨fun _ => Nat.le_refl _, fun _ => rfl⟩
theorem good_stp {c : Nat → Nat} (h : Good c) (f : Fct) : Good (stp c f) := by
  unfold stp
  by_cases he : f.e = true
  · rw [if_pos he]
    generalize hA : f.a.toNat = A
    generalize hB : f.b.toNat = B
    constructor
    · intro t
      have h1 := h.le t
      show (if c t = max (c A) (c B) then min (c A) (c B) else c t) ≤ t
      split <;> omega
    · intro t
      have h1 := h.idem t
      have h2 := h.idem A
      have h3 := h.idem B
      show (if c (if c t = max (c A) (c B) then min (c A) (c B) else c t) = max (c A) (c B) then min (c A) (c B) else c (if c t = max (c A) (c B) then min (c A) (c B) else c t)) = (if c t = max (c A) (c B) then min (c A) (c B) else c t)
      by_cases h4 : c t = max (c A) (c B)
      · rw [if_pos h4]
        have h5 : c (min (c A) (c B)) = min (c A) (c B) := by
          rcases Nat.le_total (c A) (c B) with h6 | h6
          · rw [Nat.min_eq_left h6, h2]
          · rw [Nat.min_eq_right h6, h3]
        rw [h5]
        split <;> rfl
      · rw [if_neg h4, h1, if_neg h4]
  · rw [if_neg he]; exact h
theorem good_fold (l : List Fct) : ∀ c, Good c → Good (l.foldl stp c) := by
  induction l with
  | nil => intro c h; exact h
  | cons f l ih => intro c h; exact ih _ (good_stp h f)
theorem good_cls (l : List Fct) : Good (cls l) := good_fold l id good_id
theorem cls_le (l : List Fct) (t : Nat) : cls l t ≤ t := (good_cls l).le t
theorem cls_idem (l : List Fct) (t : Nat) : cls l (cls l t) = cls l t := (good_cls l).idem t
theorem cls_zero (l : List Fct) : cls l 0 = 0 := Nat.le_zero.1 (cls_le l 0)

/-- What holds of the classes stays: equal terms stay equal. -/
theorem fold_congr (l : List Fct) : ∀ (c : Nat → Nat) {x y : Nat}, c x = c y → l.foldl stp c x = l.foldl stp c y := by
  induction l with
  | nil => intro c x y h; exact h
  | cons f l ih => intro c x y h; exact ih _ (stp_congr c f h)
theorem stp_eq (c : Nat → Nat) (f : Fct) (he : f.e = true) : stp c f f.a.toNat = stp c f f.b.toNat := by
  unfold stp; rw [if_pos he]
  generalize c f.a.toNat = A
  generalize c f.b.toNat = B
  show (if A = max A B then min A B else A) = (if B = max A B then min A B else B)
  split <;> split <;> omega
theorem fold_eq (l : List Fct) : ∀ (c : Nat → Nat) (f : Fct), f ∈ l → f.e = true → l.foldl stp c f.a.toNat = l.foldl stp c f.b.toNat := by
  induction l with
  | nil => intro c f h; cases h
  | cons g l ih =>
    intro c f h he
    rcases List.mem_cons.1 h with rfl | h
    · exact fold_congr l _ (stp_eq c f he)
    · exact ih _ f h he
theorem cls_eq {l : List Fct} {f : Fct} (h : f ∈ l) (he : f.e = true) : cls l f.a.toNat = cls l f.b.toNat := fold_eq l id f h he

/-- A valuation that makes the equalities of l true cannot tell a term from its class. -/
theorem fold_least {α : Type} (v : Nat → α) (l : List Fct) : ∀ (c : Nat → Nat), (∀ t, v (c t) = v t) → (∀ f ∈ l, f.e = true → v f.a.toNat = v f.b.toNat) → ∀ t, v (l.foldl stp c t) = v t := by
  induction l with
  | nil => intro c h _ t; exact h t
  | cons f l ih =>
    intro c h hv
    refine ih _ ?_ (fun g hg => hv g (List.mem_cons_of_mem _ hg))
    intro t
    unfold stp
    by_cases he : f.e = true
    · rw [if_pos he]
      have h1 := hv f List.mem_cons_self he
      rw [← h f.a.toNat, ← h f.b.toNat] at h1
      rw [← h t]
      generalize c f.a.toNat = A at *
      generalize c f.b.toNat = B at *
      show v (if c t = max A B then min A B else c t) = v (c t)
      split
      · rename_i h4
        rw [h4]
        rcases Nat.le_total A B with h5 | h5
        · rw [Nat.min_eq_left h5, Nat.max_eq_right h5, h1]
        · rw [Nat.min_eq_right h5, Nat.max_eq_left h5, h1]
      · rfl
    · rw [if_neg he]; exact h t
theorem cls_least {α : Type} (v : Nat → α) (l : List Fct) (hv : ∀ f ∈ l, f.e = true → v f.a.toNat = v f.b.toNat) (t : Nat) : v (cls l t) = v t := fold_least v l id (fun _ => rfl) hv t

/-- v makes every fact of l true. -/
def Sat {α : Type} (v : Nat → α) (l : List Fct) : Prop := ∀ f ∈ l, (f.e = true ↔ v f.a.toNat = v f.b.toNat)

theorem sep_iff (c : Nat → Nat) (m : List Fct) : sep c m = true ↔ ∀ f ∈ m, f.e = false → c f.a.toNat ≠ c f.b.toNat := by
  unfold sep
  rw [List.all_eq_true]
  refine forall_congr' fun f => imp_congr_right fun _ => ?_
  cases f.e <;> simp

theorem sat_of_sep {l : List Fct} (h : sep (cls l) l = true) : Sat (cls l) l := by
  intro f hf
  rw [sep_iff] at h
  constructor
  · intro he; exact cls_eq hf he
  · intro he
    cases hfe : f.e with
    | true => rfl
    | false => exact absurd he (h f hf hfe)
theorem sep_of_sat {α : Type} {v : Nat → α} {l : List Fct} (h : Sat v l) : sep (cls l) l = true := by
  rw [sep_iff]
  intro f hf he hc
  have h1 := cls_least v l (fun g hg hge => (h g hg).1 hge)
  have h2 : v f.a.toNat = v f.b.toNat := by rw [← h1 f.a.toNat, ← h1 f.b.toNat, hc]
  have := (h f hf).2 h2
  rw [he] at this; cases this
theorem sep_mono {l m : List Fct} (h : ∀ f ∈ m, f ∈ l) (hs : sep (cls l) l = true) : sep (cls m) m = true :=
  sep_of_sat (v := cls l) fun f hf => sat_of_sep hs f (h f hf)

/-- The way the program takes to an answer: without the negated fact at the end of the list. -/
theorem fimp_way (l : List Fct) (f : Fct) : (!sep (cls (l ++ [neg f])) (l ++ [neg f])) =
    (if sep (cls l) l = false then true else if f.e = true then decide (cls l f.a.toNat = cls l f.b.toNat) else !sep (stp (cls l) ⟨true, f.a, f.b⟩) l) := by
  rw [cls_snoc]
  have hc : sep (stp (cls l) (neg f)) (l ++ [neg f]) = (sep (stp (cls l) (neg f)) l && (!f.e || !decide (stp (cls l) (neg f) f.a.toNat = stp (cls l) (neg f) f.b.toNat))) := by
    unfold sep; rw [List.all_append]; simp [neg]
  rw [hc]
  cases he : f.e with
  | true =>
    have h1 : stp (cls l) (neg f) = cls l := by unfold stp neg; simp [he]
    rw [h1]
    cases sep (cls l) l <;> simp
  | false =>
    have h1 : neg f = ⟨true, f.a, f.b⟩ := by unfold neg; rw [he]; rfl
    rw [h1]
    simp only [Bool.not_false, Bool.true_or, Bool.and_true, Bool.false_eq_true, if_false]
    by_cases hs : sep (cls l) l = false
    · rw [if_pos hs]
      have h2 : ¬ sep (stp (cls l) ⟨true, f.a, f.b⟩) l = true := by
        intro h3
        have h4 : ¬ sep (cls l) l = true := by rw [hs]; decide
        apply h4
        rw [sep_iff] at h3 ⊢
        intro g hg hge hgc
        exact h3 g hg hge (stp_congr _ _ hgc)
      cases h5 : sep (stp (cls l) ⟨true, f.a, f.b⟩) l with
      | true => exact absurd h5 h2
      | false => rfl
    · rw [if_neg hs]

theorem fsv_append_neg {l : List Fct} {f : Fct} (hl : l.length < 12) (h : fsv l = true) (hf : fv f = true) : fsv (l ++ [neg f]) = true := by
  rw [fsv_iff] at h ⊢
  refine ⟨by simp; omega, fun g hg => ?_⟩
  rcases List.mem_append.1 hg with hg | hg
  · exact h.2 g hg
  · rw [List.mem_singleton.1 hg]; rw [fv_iff] at hf ⊢; exact hf
theorem fsv_sub {l m : List Fct} (hl : m.length ≤ l.length) (hm : ∀ f ∈ m, f ∈ l) (h : fsv l = true) : fsv m = true := by
  rw [fsv_iff] at h ⊢
  exact ⟨by omega, fun f hf => h.2 f (hm f hf)⟩

/-- Implication is complete (FnFactsComplete). -/
theorem complete {l : List Fct} {f : Fct} (hl : l.length < 12) (h : fsv l = true) (hf : fv f = true) : fimp l f = !fcon (l ++ [neg f]) := by
  unfold fimp fcon
  rw [h, hf, fsv_append_neg hl h hf]; simp
/-- Implication is monotonic (FnFactsMore). -/
theorem more {l : List Fct} {f : Fct} (hl : fsv l = true) (i : Nat) (h : fimp (l.take i) f = true) : fimp l f = true := by
  unfold fimp at h ⊢
  simp only [Bool.and_eq_true, Bool.not_eq_true', hl, true_and] at h ⊢
  refine ⟨h.1.2, ?_⟩
  cases h1 : sep (cls (l ++ [neg f])) (l ++ [neg f]) with
  | false => rfl
  | true =>
    have h2 : sep (cls (l.take i ++ [neg f])) (l.take i ++ [neg f]) = true := sep_mono (fun g hg => by
      rcases List.mem_append.1 hg with hg | hg
      · exact List.mem_append.2 (.inl (List.mem_of_mem_take hg))
      · exact List.mem_append.2 (.inr hg)) h1
    rw [h2] at h; exact absurd h.2 (by decide)
theorem self {l : List Fct} {f : Fct} (hl : fsv l = true) (hf : f ∈ l) : fimp l f = true := by
  unfold fimp
  simp only [Bool.and_eq_true, Bool.not_eq_true', hl, true_and]
  refine ⟨(fsv_iff l).1 hl |>.2 f hf, ?_⟩
  cases h1 : sep (cls (l ++ [neg f])) (l ++ [neg f]) with
  | false => rfl
  | true =>
    have h2 := sat_of_sep h1
    have h3 := h2 f (List.mem_append.2 (.inl hf))
    have h4 := h2 (neg f) (List.mem_append.2 (.inr (List.mem_singleton.2 rfl)))
    unfold neg at h4
    simp only [Bool.not_eq_true'] at h4
    cases hfe : f.e with
    | true => exact absurd (h4.2 (h3.1 hfe)) (by rw [hfe]; decide)
    | false => exact absurd (h3.2 (h4.1 hfe)) (by rw [hfe]; decide)
/-- A term is equal to its class by the facts (FnTermClasses). -/
theorem imp_cls {l : List Fct} (hl : fsv l = true) {t : Nat} (ht : t ≤ 8) : fimp l ⟨true, t, (cls l t : Nat)⟩ = true := by
  unfold fimp
  have h0 := cls_le l t
  have hv : fv ⟨true, t, (cls l t : Nat)⟩ = true := by rw [fv_iff]; exact ⟨⟨by simp, by show (t : Int) ≤ 8; omega⟩, ⟨by simp, by show ((cls l t : Nat) : Int) ≤ 8; omega⟩⟩
  rw [hl, hv, fimp_way]
  simp only [Int.toNat_natCast, if_true, cls_idem, decide_true, Bool.and_self]
  split <;> rfl
/-- Classes do not depend on the order of the facts, nor on their sides (FnFactsOrder). -/
theorem cls_same {l m : List Fct} (h : ∀ f ∈ l, f.e = true → cls m f.a.toNat = cls m f.b.toNat) (k : ∀ f ∈ m, f.e = true → cls l f.a.toNat = cls l f.b.toNat) (t : Nat) : cls l t = cls m t := by
  have h1 := cls_least (cls m) l h t
  have h2 := cls_least (cls l) m k t
  have h3 := cls_le m (cls l t)
  have h4 := cls_le l (cls m t)
  omega
def swp (f : Fct) : Fct := ⟨f.e, f.b, f.a⟩
theorem mem_back {l : List Fct} {f : Fct} : f ∈ (l.map swp).reverse ↔ swp f ∈ l := by
  rw [List.mem_reverse, List.mem_map]
  constructor
  · rintro ⟨g, hg, rfl⟩; exact hg
  · intro h; exact ⟨swp f, h, rfl⟩
theorem cls_back (l : List Fct) (t : Nat) : cls (l.map swp).reverse t = cls l t := by
  refine cls_same (fun f hf he => (cls_eq (mem_back.1 hf) he).symm) (fun f hf he => ?_) t
  have : swp f ∈ (l.map swp).reverse := mem_back.2 hf
  exact (cls_eq this he).symm
theorem fsv_back (l : List Fct) : fsv (l.map swp).reverse = fsv l := by
  unfold fsv
  rw [List.length_reverse, List.length_map, List.all_reverse, List.all_map]
  congr 2; funext f; unfold Function.comp fv swp; exact Bool.and_comm _ _
theorem sep_back (l : List Fct) : sep (cls (l.map swp).reverse) (l.map swp).reverse = sep (cls l) l := by
  unfold sep
  rw [List.all_reverse, List.all_map]
  congr 1; funext f
  show (f.e || !decide (cls (l.map swp).reverse f.b.toNat = cls (l.map swp).reverse f.a.toNat)) = _
  rw [cls_back, cls_back]
  congr 2
  exact decide_eq_decide.2 eq_comm
theorem fcon_back (l : List Fct) : fcon (l.map swp).reverse = fcon l := by unfold fcon; rw [fsv_back, sep_back]
/-- A part of consistent facts is consistent (FnFactsSubset). -/
theorem fcon_sub {l m : List Fct} (hl : m.length ≤ l.length) (hm : ∀ f ∈ m, f ∈ l) (h : fcon l = true) : fcon m = true := by
  unfold fcon at h ⊢
  rw [Bool.and_eq_true] at h ⊢
  exact ⟨fsv_sub hl hm h.1, sep_mono hm h.2⟩

/-- The value of a term, where vs has those of the terms other than nil. -/
def tval (vs : List Int) (t : Int) : Int := if t = 0 then 0 else vs.getD (t - 1).toNat 0
def holdB (l : List Fct) (vs : List Int) : Bool := l.all fun f => (decide (tval vs f.a = tval vs f.b)) == f.e
def fhold (l : List Fct) (vs : List Int) : Bool := fsv l && decide (vs.length = 8) && holdB l vs
theorem hold_sat {l : List Fct} {vs : List Int} (hl : fsv l = true) : holdB l vs = true ↔ Sat (fun t => tval vs t) l := by
  unfold holdB Sat
  rw [List.all_eq_true]
  refine forall_congr' fun f => imp_congr_right fun hf => ?_
  have h1 := (fv_iff f).1 ((fsv_iff l).1 hl |>.2 f hf)
  have ha : ((f.a.toNat : Nat) : Int) = f.a := by omega
  have hb : ((f.b.toNat : Nat) : Int) = f.b := by omega
  show _ ↔ (f.e = true ↔ tval vs ((f.a.toNat : Nat) : Int) = tval vs ((f.b.toNat : Nat) : Int))
  rw [ha, hb]
  cases f.e <;> simp
/-- Facts that hold are consistent (FnFactsConsistent). -/
theorem con_of_hold {l : List Fct} {vs : List Int} (h : fhold l vs = true) : fcon l = true := by
  unfold fhold at h; unfold fcon
  simp only [Bool.and_eq_true] at h ⊢
  exact ⟨h.1.1, sep_of_sat ((hold_sat h.1.1).1 h.2)⟩
def clsL (l : List Fct) : List Int := (List.range 9).map fun t => ((cls l t : Nat) : Int)
theorem clsL_length (l : List Fct) : (clsL l).length = 9 := by simp [clsL]
theorem clsL_get (l : List Fct) {t : Nat} (h : t < 9) : (clsL l)[t]? = some ((cls l t : Nat) : Int) := by
  unfold clsL; simp [h]
theorem tval_cls (l : List Fct) {t : Nat} (ht : t ≤ 8) : tval ((clsL l).drop 1) (t : Int) = ((cls l t : Nat) : Int) := by
  unfold tval
  by_cases h : t = 0
  · subst h; simp [cls_zero]
  · rw [if_neg (by omega), show ((t : Int) - 1).toNat = t - 1 from by omega]
    rw [List.getD_eq_getElem?_getD, List.getElem?_drop, show 1 + (t - 1) = t from by omega, clsL_get l (by omega)]; rfl
/-- Consistent facts hold for the classes as values (FnFactsConsistent). -/
theorem hold_cls {l : List Fct} (h : fcon l = true) : fhold l ((clsL l).drop 1) = true := by
  unfold fcon at h; unfold fhold
  simp only [Bool.and_eq_true] at h ⊢
  refine ⟨⟨h.1, by simp [clsL_length]⟩, (hold_sat h.1).2 fun f hf => ?_⟩
  have h1 := (fv_iff f).1 ((fsv_iff l).1 h.1 |>.2 f hf)
  show f.e = true ↔ tval ((clsL l).drop 1) ((f.a.toNat : Nat) : Int) = tval ((clsL l).drop 1) ((f.b.toNat : Nat) : Int)
  rw [tval_cls l (by omega), tval_cls l (by omega)]
  exact (sat_of_sep h.2 f hf).trans (by omega)
/-- Implication is sound (FnFactsImply). -/
theorem sound {l : List Fct} {f : Fct} {vs : List Int} (h : fimp l f = true) (hv : fhold l vs = true) : fhold [f] vs = true := by
  unfold fimp at h; unfold fhold at hv ⊢
  simp only [Bool.and_eq_true, Bool.not_eq_true'] at h hv ⊢
  have hf1 : fsv [f] = true := by rw [fsv_iff]; exact ⟨by simp, fun g hg => by rw [List.mem_singleton.1 hg]; exact h.1.2⟩
  refine ⟨⟨hf1, hv.1.2⟩, ?_⟩
  cases hh : holdB [f] vs with
  | true => rfl
  | false =>
    have h1 := (hold_sat hv.1.1).1 hv.2
    have h2 : ¬ Sat (fun t : Nat => tval vs (t : Int)) [f] := by rw [← hold_sat hf1, hh]; decide
    have h3 : Sat (fun t : Nat => tval vs (t : Int)) (l ++ [neg f]) := by
      intro g hg
      rcases List.mem_append.1 hg with hg | hg
      · exact h1 g hg
      · rw [List.mem_singleton.1 hg]
        have h4 : ¬ (f.e = true ↔ tval vs ((f.a.toNat : Nat) : Int) = tval vs ((f.b.toNat : Nat) : Int)) := fun h5 => h2 (fun g hg => by rw [List.mem_singleton.1 hg]; exact h5)
        show (!f.e) = true ↔ tval vs ((f.a.toNat : Nat) : Int) = tval vs ((f.b.toNat : Nat) : Int)
        cases he : f.e <;> simp [he] at h4 ⊢ <;> exact h4
    rw [sep_of_sat h3] at h
    exact absurd h.2 (by decide)

end Go.Proofs.YtifdefkkofngoaaDoor.Pl

/- Names of terms and texts of facts: plain lists of bytes. No conditions. -/
namespace Go.Proofs.YtifdefkkofngoaaDoor.Pl
open Go.Lib

/-! ### Names -/
def nmN : Nat → Txt
  | 0 => [110, 105, 108]
  | 1 => [97]
  | 2 => [98]
  | 3 => [99]
  | 4 => [100]
  | 5 => [112]
  | 6 => [113]
  | 7 => [114]
  | 8 => [115]
  | _ => []
def nm (t : Int) : Txt := if tmB t then nmN t.toNat else []
theorem nm_nat {t : Nat} (h : t ≤ 8) : nm (t : Int) = nmN t := by unfold nm; rw [if_pos ((tmB_iff _).2 (by omega))]; rfl
theorem nm_bad {t : Int} (h : tmB t = false) : nm t = [] := by unfold nm; rw [h]; rfl
theorem tm_of {t : Int} (h : tmB t = true) : ∃ n : Nat, t = (n : Int) ∧ n ≤ 8 := by
  have := (tmB_iff t).1 h
  exact ⟨t.toNat, by omega, by omega⟩
theorem nmN_fin : ∀ a b : Fin 9, nmN a.val = nmN b.val → a = b := by decide
theorem nmN_inj {a b : Nat} (ha : a ≤ 8) (hb : b ≤ 8) (h : nmN a = nmN b) : a = b := congrArg Fin.val (nmN_fin ⟨a, by omega⟩ ⟨b, by omega⟩ h)
theorem nmN_low : ∀ a : Fin 9, ∀ c ∈ nmN a.val, 97 ≤ c := by decide
theorem nmN_len : ∀ a : Fin 9, 1 ≤ (nmN a.val).length ∧ (nmN a.val).length ≤ 3 := by decide
theorem nm_low {t : Int} {c : UInt8} (h : c ∈ nm t) : 97 ≤ c := by
  unfold nm at h
  split at h
  · rename_i ht
    have := (tmB_iff t).1 ht
    exact nmN_low ⟨t.toNat, by omega⟩ c h
  · cases h
theorem nm_len (t : Int) : (nm t).length ≤ 3 := by
  unfold nm
  split
  · rename_i ht
    have := (tmB_iff t).1 ht
    exact (nmN_len ⟨t.toNat, by omega⟩).2
  · simp
theorem nm_ne {t : Int} (h : tmB t = true) : nm t ≠ [] := by
  obtain ⟨n, rfl, hn⟩ := tm_of h
  rw [nm_nat hn]
  intro e
  have := (nmN_len ⟨n, by omega⟩).1
  simp only [e] at this
  simp at this
theorem nm_inj {a b : Int} (ha : tmB a = true) (hb : tmB b = true) (h : nm a = nm b) : a = b := by
  obtain ⟨n, rfl, hn⟩ := tm_of ha
  obtain ⟨m, rfl, hm⟩ := tm_of hb
  rw [nm_nat hn, nm_nat hm] at h
  rw [nmN_inj hn hm h]
/-- The term of a name, from k on. -/
def pTfrom (s : Txt) : Nat → Nat → Int × Bool
  | 0, _ => (0, false)
  | f + 1, t => if nmN t = s then ((t : Int), true) else pTfrom s f (t + 1)
def pT (s : Txt) : Int × Bool := pTfrom s 9 0
theorem pTfrom_hit {s : Txt} {f t : Nat} (h : nmN t = s) : pTfrom s (f + 1) t = ((t : Int), true) := by unfold pTfrom; rw [if_pos h]
theorem pTfrom_next {s : Txt} {f t : Nat} (h : nmN t ≠ s) : pTfrom s (f + 1) t = pTfrom s f (t + 1) := by
  conv => lhs; unfold pTfrom
  rw [if_neg h]
theorem pT_fin : ∀ a : Fin 9, pT (nmN a.val) = ((a.val : Int), true) := by decide
theorem pT_nm {t : Int} (h : tmB t = true) : pT (nm t) = (t, true) := by
  obtain ⟨n, rfl, hn⟩ := tm_of h
  rw [nm_nat hn]; exact pT_fin ⟨n, by omega⟩
theorem pTfrom_sound {s : Txt} : ∀ {f t : Nat} {r : Int}, pTfrom s f t = (r, true) → ∃ n : Nat, r = (n : Int) ∧ n < t + f ∧ nmN n = s
  | 0, _, _, h => by unfold pTfrom at h; simp at h
  | f + 1, t, r, h => by
    by_cases e : nmN t = s
    · rw [pTfrom_hit e] at h
      simp only [Prod.mk.injEq, and_true] at h
      exact ⟨t, h.symm, by omega, e⟩
    · rw [pTfrom_next e] at h
      obtain ⟨n, h1, h2, h3⟩ := pTfrom_sound h
      exact ⟨n, h1, by omega, h3⟩
theorem pTfrom_no {s : Txt} : ∀ {f t : Nat}, (pTfrom s f t).2 = false → pTfrom s f t = (0, false)
  | 0, _, _ => rfl
  | f + 1, t, h => by
    by_cases e : nmN t = s
    · rw [pTfrom_hit e] at h; cases h
    · rw [pTfrom_next e] at h ⊢; exact pTfrom_no h
theorem pT_sound {s : Txt} {t : Int} (h : pT s = (t, true)) : tmB t = true ∧ nm t = s := by
  obtain ⟨n, rfl, h2, h3⟩ := pTfrom_sound h
  exact ⟨(tmB_iff _).2 (by omega), by rw [nm_nat (by omega)]; exact h3⟩
theorem pT_no {s : Txt} (h : (pT s).2 = false) : pT s = (0, false) := pTfrom_no h
theorem pT_len {s : Txt} (h : (pT s).2 = true) : s.length ≤ 3 := by
  obtain ⟨_, h2⟩ := pT_sound (show pT s = ((pT s).1, true) from Prod.ext rfl h)
  rw [← h2]; exact nm_len _

/-! ### Facts -/
def sg (e : Bool) : Txt := if e then [61] else [33, 61]
def txF (f : Fct) : Txt := nm f.a ++ sg f.e ++ nm f.b
def fmtF (f : Fct) : Txt := if fv f then txF f else []
def noF : Fct := ⟨false, 0, 0⟩
def pF2 (e : Bool) (l r : Txt) : Fct × Bool := if (pT l).2 && (pT r).2 then (⟨e, (pT l).1, (pT r).1⟩, true) else (noF, false)
def pF (s : Txt) : Fct × Bool := if (cut s [61]).2.2 then pF2 (!hasSuffix (cut s [61]).1 [33]) (trimSuffix (cut s [61]).1 [33]) (cut s [61]).2.1 else (noF, false)
theorem pF_fin : ∀ (e : Bool) (a b : Fin 9), pF (nmN a.val ++ sg e ++ nmN b.val) = (⟨e, (a.val : Int), (b.val : Int)⟩, true) := by decide +kernel
theorem fv_parts {f : Fct} (h : fv f = true) : tmB f.a = true ∧ tmB f.b = true := by unfold fv at h; rwa [Bool.and_eq_true] at h
theorem pF_txF {f : Fct} (h : fv f = true) : pF (txF f) = (f, true) := by
  obtain ⟨e, a, b⟩ := f
  obtain ⟨ha, hb⟩ := fv_parts h
  obtain ⟨n, rfl, hn⟩ := tm_of ha
  obtain ⟨m, rfl, hm⟩ := tm_of hb
  show pF (nm (n : Int) ++ sg e ++ nm (m : Int)) = _
  rw [nm_nat hn, nm_nat hm]
  exact pF_fin e ⟨n, by omega⟩ ⟨m, by omega⟩
theorem pF2_sound {e : Bool} {l r : Txt} {f : Fct} (h : pF2 e l r = (f, true)) : f.e = e ∧ fv f = true ∧ nm f.a = l ∧ nm f.b = r := by
  unfold pF2 at h
  split at h
  · rename_i hc
    rw [Bool.and_eq_true] at hc
    obtain ⟨h1, h2⟩ := pT_sound (show pT l = ((pT l).1, true) from Prod.ext rfl hc.1)
    obtain ⟨h3, h4⟩ := pT_sound (show pT r = ((pT r).1, true) from Prod.ext rfl hc.2)
    simp only [Prod.mk.injEq, and_true] at h
    subst h
    exact ⟨rfl, by unfold fv; rw [h1, h3]; rfl, h2, h4⟩
  · simp at h
theorem suffix_split {s p : Txt} (h : hasSuffix s p = true) : s = trimSuffix s p ++ p := by
  unfold trimSuffix
  rw [if_pos h]
  unfold hasSuffix at h
  obtain ⟨t, rfl⟩ := List.isSuffixOf_iff_suffix.1 h
  rw [List.length_append, Nat.add_sub_cancel, List.take_left]
theorem pF_sound {s : Txt} {f : Fct} (h : pF s = (f, true)) : fv f = true ∧ txF f = s := by
  unfold pF at h
  split at h
  · rename_i hc
    obtain ⟨he, hv, ha, hb⟩ := pF2_sound h
    have hs := cut_found (show cut s [61] = ((cut s [61]).1, (cut s [61]).2.1, true) from Prod.ext rfl (Prod.ext rfl hc))
    refine ⟨hv, ?_⟩
    unfold txF
    rw [ha, hb, he]
    cases hq : hasSuffix (cut s [61]).1 [33] with
    | true =>
      have h2 := suffix_split hq
      conv => rhs; rw [hs, h2]
      simp [sg]
    | false =>
      have h2 : trimSuffix (cut s [61]).1 [33] = (cut s [61]).1 := by unfold trimSuffix; rw [hq]; rfl
      rw [h2]
      conv => rhs; rw [hs]
      simp [sg]
  · simp at h
theorem pF_no {s : Txt} (h : (pF s).2 = false) : pF s = (noF, false) := by
  unfold pF at h ⊢
  split
  · rename_i hc
    rw [if_pos hc] at h
    unfold pF2 at h ⊢
    split
    · rename_i h2; rw [if_pos h2] at h; cases h
    · rfl
  · rfl
theorem sg_len (e : Bool) : (sg e).length ≤ 2 := by cases e <;> simp [sg]
theorem txF_len (f : Fct) : (txF f).length ≤ 8 := by
  unfold txF
  have := nm_len f.a
  have := nm_len f.b
  have := sg_len f.e
  simp only [List.length_append]; omega
theorem pF_long {s : Txt} (h : 8 < s.length) : pF s = (noF, false) := by
  refine pF_no ?_
  rw [Bool.eq_false_iff]
  intro e
  obtain ⟨_, h2⟩ := pF_sound (show pF s = ((pF s).1, true) from Prod.ext rfl e)
  have := txF_len (pF s).1
  rw [h2] at this; omega
theorem txF_inj {f g : Fct} (hf : fv f = true) (hg : fv g = true) (h : txF f = txF g) : f = g := by
  have h1 := pF_txF hf
  rw [h, pF_txF hg] at h1
  exact (congrArg Prod.fst h1).symm
/-- The bytes of a fact's text. -/
theorem txF_mem {f : Fct} {c : UInt8} (h : c ∈ txF f) : 97 ≤ c ∨ c = 33 ∨ c = 61 := by
  unfold txF at h
  rw [List.mem_append, List.mem_append] at h
  rcases h with (h | h) | h
  · exact .inl (nm_low h)
  · cases he : f.e with
    | true => rw [he] at h; rw [List.mem_singleton.1 h]; exact .inr (.inr rfl)
    | false =>
      rw [he] at h
      rcases List.mem_cons.1 h with rfl | h
      · exact .inr (.inl rfl)
      · rw [List.mem_singleton.1 h]; exact .inr (.inr rfl)
  · exact .inl (nm_low h)
theorem txF_ne (f : Fct) : txF f ≠ [] := by
  unfold txF; cases f.e <;> simp [sg]

end Go.Proofs.YtifdefkkofngoaaDoor.Pl

/- Plain law of the reference's reading of a fact: the first equality sign parts the text. No program. -/
namespace Go.Proofs.YtifdefkkofngoaaDoor.Pl
open Go.Lib
set_option linter.unusedVariables false

theorem cut_at {s : Txt} {i : Nat} {c : UInt8} (hi : s[i]? = some c) (hn : ∀ j, j < i → s[j]? ≠ some c) : cut s [c] = (s.take i, s.drop (i + 1), true) := by
  obtain ⟨hl, he⟩ := List.getElem?_eq_some_iff.1 hi
  have hs : s = s.take i ++ [c] ++ s.drop (i + 1) := by
    conv => lhs; rw [← List.take_append_drop i s, List.drop_eq_getElem_cons hl, he]
    simp
  conv => lhs; rw [hs]
  refine cut_sep (c := c) (j := 0) (fun hm => ?_) rfl (fun j hj => by omega)
  obtain ⟨j, hj, e⟩ := List.getElem_of_mem hm
  rw [List.length_take] at hj
  rw [List.getElem_take] at e
  exact hn j (by omega) (by rw [List.getElem?_eq_getElem (by omega), e])
theorem cut_no {s : Txt} {c : UInt8} (hn : ∀ j, j < s.length → s[j]? ≠ some c) : cut s [c] = (s, [], false) := by
  refine cut_lack (c := c) (j := 0) (fun hm => ?_) rfl
  obtain ⟨j, hj, e⟩ := List.getElem_of_mem hm
  exact hn j hj (by rw [List.getElem?_eq_getElem hj, e])
theorem sfx_iff {s : Txt} {i : Nat} (hi : i ≤ s.length) (c : UInt8) : hasSuffix (s.take i) [c] = true ↔ 0 < i ∧ s[i - 1]? = some c := by
  unfold hasSuffix
  rw [List.isSuffixOf_iff_suffix]
  constructor
  · rintro ⟨t, ht⟩
    have hl : t.length + 1 = i := by
      have := congrArg List.length ht
      simp at this; omega
    have h1 : (s.take i)[i - 1]? = some c := by
      rw [← ht, List.getElem?_append_right (by omega)]
      simp [show i - 1 - t.length = 0 by omega]
    refine ⟨by omega, ?_⟩
    rw [List.getElem?_take] at h1
    split at h1
    · exact h1
    · cases h1
  · rintro ⟨h0, h1⟩
    obtain ⟨hl, he⟩ := List.getElem?_eq_some_iff.1 h1
    refine ⟨s.take (i - 1), ?_⟩
    have := List.take_succ_eq_append_getElem hl
    rw [show i - 1 + 1 = i by omega] at this
    rw [this, he]
theorem trim_at {s : Txt} {i : Nat} (hi : i ≤ s.length) {c : UInt8} (h : hasSuffix (s.take i) [c] = true) : trimSuffix (s.take i) [c] = s.take (i - 1) := by
  unfold trimSuffix
  rw [if_pos h, List.length_take, Nat.min_eq_left hi, List.take_take]
  simp [Nat.min_eq_left (show i - 1 ≤ i by omega)]

/-- The reference's answer at the first equality sign. -/
theorem pF_at {s : Txt} {i : Nat} (hi : s[i]? = some 61) (hn : ∀ j, j < i → s[j]? ≠ some 61) (hm : 0 < i ∧ s[i - 1]? = some 33) : pF s = pF2 false (s.take (i - 1)) (s.drop (i + 1)) := by
  have hl : i ≤ s.length := Nat.le_of_lt (List.getElem?_eq_some_iff.1 hi).1
  unfold pF
  rw [cut_at hi hn, if_pos rfl]
  have h1 := (sfx_iff hl 33).2 hm
  rw [h1, trim_at hl h1]; rfl
theorem pF_at2 {s : Txt} {i : Nat} (hi : s[i]? = some 61) (hn : ∀ j, j < i → s[j]? ≠ some 61) (hm : ¬ (0 < i ∧ s[i - 1]? = some 33)) : pF s = pF2 true (s.take i) (s.drop (i + 1)) := by
  have hl : i ≤ s.length := Nat.le_of_lt (List.getElem?_eq_some_iff.1 hi).1
  unfold pF
  rw [cut_at hi hn, if_pos rfl]
  have h1 : hasSuffix (s.take i) [33] = false := by
    cases hq : hasSuffix (s.take i) [33] with
    | false => rfl
    | true => exact absurd ((sfx_iff hl 33).1 hq) hm
  have h2 : trimSuffix (s.take i) [33] = s.take i := by unfold trimSuffix; rw [h1]; rfl
  rw [h1, h2]; rfl
theorem pF_none {s : Txt} (hn : ∀ j, j < s.length → s[j]? ≠ some 61) : pF s = (noF, false) := by
  unfold pF
  rw [cut_no hn]; rfl

end Go.Proofs.YtifdefkkofngoaaDoor.Pl

/- The plain mathematics of assertions: validity, substitution, conjunction, fresh variables, with no program in sight. No conditions. -/
namespace Go.Proofs.YtifdefkkofngoaaDoor.Pl

/-- An atom: its kind and two terms. -/
structure Atm where
  k : Int
  a : Int
  b : Int
deriving DecidableEq
/-- An assertion: facts and atoms. -/
structure Asr where
  f : List Fct
  a : List Atm
deriving DecidableEq

abbrev noA : Asr := ⟨[], []⟩
def av (x : Atm) : Bool := (decide (x.k = 1) || decide (x.k = 2)) && tmB x.a && tmB x.b
theorem av_iff (x : Atm) : av x = true ↔ (x.k = 1 ∨ x.k = 2) ∧ tmB x.a = true ∧ tmB x.b = true := by
  unfold av; rw [Bool.and_eq_true, Bool.and_eq_true, Bool.or_eq_true, decide_eq_true_iff, decide_eq_true_iff, and_assoc]
def asv (s : Asr) : Bool := fsv s.f && decide (s.a.length ≤ 6) && s.a.all av
theorem asv_iff (s : Asr) : asv s = true ↔ fsv s.f = true ∧ s.a.length ≤ 6 ∧ ∀ x ∈ s.a, av x = true := by
  unfold asv; rw [Bool.and_eq_true, Bool.and_eq_true, decide_eq_true_iff, List.all_eq_true, and_assoc]
theorem asv_len {s : Asr} (h : asv s = true) : s.f.length ≤ 12 ∧ s.a.length ≤ 6 := ⟨((fsv_iff _).1 ((asv_iff s).1 h).1).1, ((asv_iff s).1 h).2.1⟩

/-! ### Substitution -/
def sw (t x y : Int) : Int := if t = x then y else t
def sbF (x y : Int) (f : Fct) : Fct := ⟨f.e, sw f.a x y, sw f.b x y⟩
def sbA (x y : Int) (m : Atm) : Atm := ⟨m.k, sw m.a x y, sw m.b x y⟩
def sbs (s : Asr) (x y : Int) : Asr := ⟨s.f.map (sbF x y), s.a.map (sbA x y)⟩
def sbOk (s : Asr) (x y : Int) : Bool := asv s && (tmB x && tmB y && decide (x ≠ 0))
def sbR (s : Asr) (x y : Int) : Asr × Bool := if sbOk s x y then (sbs s x y, true) else (noA, false)
theorem sbR_ok {s : Asr} {x y : Int} (h : sbOk s x y = true) : sbR s x y = (sbs s x y, true) := by unfold sbR; rw [if_pos h]
theorem sbR_no {s : Asr} {x y : Int} (h : sbOk s x y = false) : sbR s x y = (noA, false) := by unfold sbR; rw [h]; rfl
theorem sbs_len (s : Asr) (x y : Int) : (sbs s x y).f.length = s.f.length ∧ (sbs s x y).a.length = s.a.length := ⟨by simp [sbs], by simp [sbs]⟩
theorem sbR_len (s : Asr) (x y : Int) : (sbR s x y).1.f.length ≤ s.f.length ∧ (sbR s x y).1.a.length ≤ s.a.length := by
  unfold sbR; split
  · simp [sbs]
  · simp
theorem sbR_lenN (s : Asr) (x y : Int) {n : Nat} (h1 : s.f.length ≤ n) (h2 : s.a.length ≤ n) : (sbR s x y).1.f.length ≤ n ∧ (sbR s x y).1.a.length ≤ n := ⟨Nat.le_trans (sbR_len s x y).1 h1, Nat.le_trans (sbR_len s x y).2 h2⟩
theorem sbOk_iff (s : Asr) (x y : Int) : sbOk s x y = true ↔ asv s = true ∧ tmB x = true ∧ tmB y = true ∧ x ≠ 0 := by
  unfold sbOk; rw [Bool.and_eq_true, Bool.and_eq_true, Bool.and_eq_true, decide_eq_true_iff, and_assoc]
theorem sw_tm {t x y : Int} (h : tmB t = true) (hy : tmB y = true) : tmB (sw t x y) = true := by unfold sw; split <;> assumption
theorem sbs_valid {s : Asr} {x y : Int} (h : asv s = true) (hy : tmB y = true) : asv (sbs s x y) = true := by
  obtain ⟨h1, h2, h3⟩ := (asv_iff s).1 h
  obtain ⟨k1, k2⟩ := (fsv_iff _).1 h1
  refine (asv_iff _).2 ⟨(fsv_iff _).2 ⟨by simp [sbs]; exact k1, ?_⟩, by simp [sbs]; exact h2, ?_⟩
  · intro f hf
    obtain ⟨g, hg, rfl⟩ := List.mem_map.1 hf
    have := k2 g hg
    unfold fv at this ⊢
    rw [Bool.and_eq_true] at this ⊢
    exact ⟨sw_tm this.1 hy, sw_tm this.2 hy⟩
  · intro f hf
    obtain ⟨g, hg, rfl⟩ := List.mem_map.1 hf
    obtain ⟨q1, q2, q3⟩ := (av_iff g).1 (h3 g hg)
    exact (av_iff _).2 ⟨q1, sw_tm q2 hy, sw_tm q3 hy⟩
theorem sw_comm {t x y u : Int} (h1 : x ≠ y) (h2 : u ≠ y) (h3 : u ≠ x) : sw (sw t x u) y u = sw (sw t y u) x u := by
  unfold sw
  by_cases ha : t = x
  · subst ha; rw [if_pos rfl, if_neg h2, if_neg h1, if_pos rfl]
  · by_cases hb : t = y
    · subst hb; rw [if_neg ha, if_pos rfl, if_neg h3]
    · rw [if_neg ha, if_neg hb, if_neg ha]
theorem sbs_comm (s : Asr) {x y u : Int} (h1 : x ≠ y) (h2 : u ≠ y) (h3 : u ≠ x) : sbs (sbs s x u) y u = sbs (sbs s y u) x u := by
  unfold sbs
  simp only [List.map_map, Asr.mk.injEq]
  constructor
  · refine List.map_congr_left fun f _ => ?_
    simp only [Function.comp_apply, sbF, Fct.mk.injEq, true_and]
    exact ⟨sw_comm h1 h2 h3, sw_comm h1 h2 h3⟩
  · refine List.map_congr_left fun f _ => ?_
    simp only [Function.comp_apply, sbA, Atm.mk.injEq, true_and]
    exact ⟨sw_comm h1 h2 h3, sw_comm h1 h2 h3⟩

/-! ### Conjunction -/
def join (s t : Asr) : Asr := ⟨s.f ++ t.f, s.a ++ t.a⟩
def starR (s t : Asr) : Asr × Bool := if asv s && asv t && asv (join s t) then (join s t, true) else (noA, false)
theorem starR_ok {s t : Asr} (h1 : asv s = true) (h2 : asv t = true) (h3 : asv (join s t) = true) : starR s t = (join s t, true) := by unfold starR; rw [h1, h2, h3]; rfl
theorem starR_1 {s t : Asr} (h1 : asv s = false) : starR s t = (noA, false) := by unfold starR; rw [h1]; rfl
theorem starR_2 {s t : Asr} (h2 : asv t = false) : starR s t = (noA, false) := by unfold starR; rw [h2, Bool.and_false]; rfl
theorem starR_3 {s t : Asr} (h3 : asv (join s t) = false) : starR s t = (noA, false) := by unfold starR; rw [h3, Bool.and_false]; rfl
theorem starR_len (s t : Asr) : (starR s t).1.f.length ≤ s.f.length + t.f.length ∧ (starR s t).1.a.length ≤ s.a.length + t.a.length := by
  unfold starR; split
  · simp [join]
  · simp
theorem join_nil (s : Asr) : join s noA = s := by unfold join; simp

/-! ### Terms that occur -/
def occF (f : Fct) (t : Int) : Bool := decide (f.a = t) || decide (f.b = t)
def occA (x : Atm) (t : Int) : Bool := decide (x.a = t) || decide (x.b = t)
def occ (s : Asr) (t : Int) : Bool := s.f.any (occF · t) || s.a.any (occA · t)
/-- The first logical variable from n on that does not occur. -/
def freshFrom (p : Int → Bool) : Nat → Int → Int × Bool
  | 0, _ => (0, false)
  | k + 1, t => if p t then freshFrom p k (t + 1) else (t, true)
def freshR (s : Asr) : Int × Bool := if asv s then freshFrom (occ s) 4 5 else (0, false)

end Go.Proofs.YtifdefkkofngoaaDoor.Pl

/- The plain mathematics of states: values of terms, cells, ways, with no program in sight. No conditions. -/
namespace Go.Proofs.YtifdefkkofngoaaDoor.Pl

/-- A state: the values of the terms from 1 on, the contents of the addresses from 1 on. -/
structure St where
  v : List Int
  h : List Int
deriving DecidableEq

def vlB (n : Int) : Bool := decide (0 ≤ n ∧ n ≤ 8)
def adB (n : Int) : Bool := decide (1 ≤ n ∧ n ≤ 8)
def clB (n : Int) : Bool := decide (-1 ≤ n ∧ n ≤ 8)
theorem vlB_iff (n : Int) : vlB n = true ↔ 0 ≤ n ∧ n ≤ 8 := by unfold vlB; exact decide_eq_true_iff
theorem adB_iff (n : Int) : adB n = true ↔ 1 ≤ n ∧ n ≤ 8 := by unfold adB; exact decide_eq_true_iff
theorem clB_iff (n : Int) : clB n = true ↔ -1 ≤ n ∧ n ≤ 8 := by unfold clB; exact decide_eq_true_iff
def stv (s : St) : Bool := decide (s.v.length = 8) && decide (s.h.length = 8) && s.v.all vlB && s.h.all clB
theorem stv_iff (s : St) : stv s = true ↔ (s.v.length = 8 ∧ s.h.length = 8) ∧ (∀ n ∈ s.v, vlB n = true) ∧ ∀ n ∈ s.h, clB n = true := by
  unfold stv; rw [Bool.and_eq_true, Bool.and_eq_true, Bool.and_eq_true, decide_eq_true_iff, decide_eq_true_iff, List.all_eq_true, List.all_eq_true]
  constructor
  · rintro ⟨⟨⟨a, b⟩, c⟩, d⟩; exact ⟨⟨a, b⟩, c, d⟩
  · rintro ⟨⟨a, b⟩, c, d⟩; exact ⟨⟨⟨a, b⟩, c⟩, d⟩
abbrev emp : St := ⟨[], []⟩

/-- The content of a cell, as a number; -1 where there is no such address. -/
def cont (h : List Int) (a : Int) : Int := if adB a then h.getD (a - 1).toNat 0 else -1
def hasB (h : List Int) (a : Int) : Bool := decide (0 ≤ cont h a)
theorem hasB_iff (h : List Int) (a : Int) : hasB h a = true ↔ 0 ≤ cont h a := by unfold hasB; exact decide_eq_true_iff
theorem hasB_false (h : List Int) (a : Int) : hasB h a = false ↔ cont h a < 0 := by unfold hasB; rw [decide_eq_false_iff_not]; omega
theorem cont_out {h : List Int} {a : Int} (k : adB a = false) : cont h a = -1 := by unfold cont; rw [k]; rfl
theorem cont_in {h : List Int} {n : Nat} (hn : n < h.length) (h8 : h.length = 8) : cont h ((n : Int) + 1) = h[n] := by
  unfold cont; rw [if_pos ((adB_iff _).2 (by omega)), show ((n : Int) + 1 - 1).toNat = n from by omega, List.getD_eq_getElem?_getD, List.getElem?_eq_getElem hn]; rfl
theorem has_ad {h : List Int} {a : Int} (k : hasB h a = true) : 1 ≤ a ∧ a ≤ 8 := by
  rw [hasB_iff] at k; unfold cont at k; rw [← adB_iff]
  cases hh : adB a with
  | true => rfl
  | false => rw [hh] at k; simp at k
theorem cont_set {h : List Int} {a b x : Int} (h8 : h.length = 8) (ha : 1 ≤ a ∧ a ≤ 8) : cont (h.set (a - 1).toNat x) b = if b = a then x else cont h b := by
  unfold cont
  cases hb : adB b with
  | false =>
    have hne : b ≠ a := by rintro rfl; rw [(adB_iff _).2 ha] at hb; cases hb
    rw [if_neg hne]; rfl
  | true =>
    have := (adB_iff _).1 hb
    rw [if_pos rfl, if_pos rfl, List.getD_eq_getElem?_getD, List.getD_eq_getElem?_getD, List.getElem?_set]
    by_cases e : b = a
    · subst e; rw [if_pos rfl, if_pos rfl, if_pos (by omega)]; rfl
    · rw [if_neg e, if_neg (by omega)]

/-- What the operations return. -/
def valueOf (s : St) (t : Int) : Int × Bool := if stv s && tmB t then (tval s.v t, true) else (0, false)
def setT (s : St) (t x : Int) : St × Bool := if stv s && tmB t && !decide (t = 0) && vlB x then (⟨s.v.set (t - 1).toNat x, s.h⟩, true) else (emp, false)
def readC (s : St) (a : Int) : Int × Bool := if stv s && hasB s.h a then (cont s.h a, true) else (0, false)
def writeC (s : St) (a x : Int) : St × Bool := if stv s && hasB s.h a && vlB x then (⟨s.v, s.h.set (a - 1).toNat x⟩, true) else (emp, false)
def freeC (s : St) (a : Int) : St × Bool := if stv s && hasB s.h a then (⟨s.v, s.h.set (a - 1).toNat (-1)⟩, true) else (emp, false)

/-- The least free address. -/
def isFree (h : List Int) (n : Nat) : Prop := (1 ≤ n ∧ n ≤ 8) ∧ (∀ i : Nat, 1 ≤ i → i < n → hasB h (i : Int) = true) ∧ hasB h (n : Int) = false
def isFull (h : List Int) : Prop := ∀ i : Nat, 1 ≤ i → i ≤ 8 → hasB h (i : Int) = true
def afree (h : List Int) : Option Nat := [1, 2, 3, 4, 5, 6, 7, 8].find? fun n : Nat => !hasB h (n : Int)
theorem free_or (h : List Int) : (∃ n, isFree h n) ∨ isFull h := by
  have aux : ∀ k : Nat, (∃ n, (1 ≤ n ∧ n ≤ k) ∧ (∀ i : Nat, 1 ≤ i → i < n → hasB h (i : Int) = true) ∧ hasB h (n : Int) = false) ∨ ∀ i : Nat, 1 ≤ i → i ≤ k → hasB h (i : Int) = true := by
    intro k
    induction k with
    | zero => right; intro i h1 h2; omega
    | succ k ih =>
      rcases ih with ⟨n, h1, h2, h3⟩ | ih
      · exact .inl ⟨n, ⟨h1.1, by omega⟩, h2, h3⟩
      · cases hk : hasB h ((k + 1 : Nat) : Int) with
        | false => exact .inl ⟨k + 1, ⟨by omega, by omega⟩, fun i h1 h2 => ih i h1 (by omega), hk⟩
        | true =>
          right; intro i h1 h2
          by_cases e : i = k + 1
          · subst e; exact hk
          · exact ih i h1 (by omega)
  exact aux 8
theorem afree_some {h : List Int} {n : Nat} (k : isFree h n) : afree h = some n := by
  obtain ⟨⟨k1, k2⟩, kl, kn⟩ := k
  unfold afree
  rcases (show n = 1 ∨ n = 2 ∨ n = 3 ∨ n = 4 ∨ n = 5 ∨ n = 6 ∨ n = 7 ∨ n = 8 from by omega) with rfl | rfl | rfl | rfl | rfl | rfl | rfl | rfl
  · have e1 : hasB h 1 = false := kn
    simp [List.find?, e1]
  · have e2 : hasB h 2 = false := kn
    have e1 : hasB h 1 = true := kl 1 (by omega) (by omega)
    simp [List.find?, e1, e2]
  · have e3 : hasB h 3 = false := kn
    have e1 : hasB h 1 = true := kl 1 (by omega) (by omega)
    have e2 : hasB h 2 = true := kl 2 (by omega) (by omega)
    simp [List.find?, e1, e2, e3]
  · have e4 : hasB h 4 = false := kn
    have e1 : hasB h 1 = true := kl 1 (by omega) (by omega)
    have e2 : hasB h 2 = true := kl 2 (by omega) (by omega)
    have e3 : hasB h 3 = true := kl 3 (by omega) (by omega)
    simp [List.find?, e1, e2, e3, e4]
  · have e5 : hasB h 5 = false := kn
    have e1 : hasB h 1 = true := kl 1 (by omega) (by omega)
    have e2 : hasB h 2 = true := kl 2 (by omega) (by omega)
    have e3 : hasB h 3 = true := kl 3 (by omega) (by omega)
    have e4 : hasB h 4 = true := kl 4 (by omega) (by omega)
    simp [List.find?, e1, e2, e3, e4, e5]
  · have e6 : hasB h 6 = false := kn
    have e1 : hasB h 1 = true := kl 1 (by omega) (by omega)
    have e2 : hasB h 2 = true := kl 2 (by omega) (by omega)
    have e3 : hasB h 3 = true := kl 3 (by omega) (by omega)
    have e4 : hasB h 4 = true := kl 4 (by omega) (by omega)
    have e5 : hasB h 5 = true := kl 5 (by omega) (by omega)
    simp [List.find?, e1, e2, e3, e4, e5, e6]
  · have e7 : hasB h 7 = false := kn
    have e1 : hasB h 1 = true := kl 1 (by omega) (by omega)
    have e2 : hasB h 2 = true := kl 2 (by omega) (by omega)
    have e3 : hasB h 3 = true := kl 3 (by omega) (by omega)
    have e4 : hasB h 4 = true := kl 4 (by omega) (by omega)
    have e5 : hasB h 5 = true := kl 5 (by omega) (by omega)
    have e6 : hasB h 6 = true := kl 6 (by omega) (by omega)
    simp [List.find?, e1, e2, e3, e4, e5, e6, e7]
  · have e8 : hasB h 8 = false := kn
    have e1 : hasB h 1 = true := kl 1 (by omega) (by omega)
    have e2 : hasB h 2 = true := kl 2 (by omega) (by omega)
    have e3 : hasB h 3 = true := kl 3 (by omega) (by omega)
    have e4 : hasB h 4 = true := kl 4 (by omega) (by omega)
    have e5 : hasB h 5 = true := kl 5 (by omega) (by omega)
    have e6 : hasB h 6 = true := kl 6 (by omega) (by omega)
    have e7 : hasB h 7 = true := kl 7 (by omega) (by omega)
    simp [List.find?, e1, e2, e3, e4, e5, e6, e7, e8]
theorem afree_none {h : List Int} (k : isFull h) : afree h = none := by
  unfold afree
  rw [List.find?_eq_none]
  intro x hx
  have : 1 ≤ x ∧ x ≤ 8 := by simp at hx; omega
  rw [k x this.1 this.2]; simp
def allocC (s : St) : St × Int × Bool := if stv s then (match afree s.h with | some n => (⟨s.v, s.h.set (n - 1) 0⟩, (n : Int), true) | none => (emp, 0, false)) else (emp, 0, false)

/-- The allocated addresses among the first k. -/
def usedTo (h : List Int) : Nat → List Int
  | 0 => []
  | k + 1 => usedTo h k ++ if hasB h ((k : Int) + 1) then [(k : Int) + 1] else []
def usedC (s : St) : List Int := if stv s then usedTo s.h 8 else []
theorem usedTo_len (h : List Int) (k : Nat) : (usedTo h k).length ≤ k := by
  induction k with
  | zero => simp [usedTo]
  | succ k ih => unfold usedTo; rw [List.length_append]; split <;> simp <;> omega
theorem mem_usedTo {h : List Int} {k : Nat} {x : Int} : x ∈ usedTo h k ↔ (1 ≤ x ∧ x ≤ k) ∧ hasB h x = true := by
  induction k with
  | zero => simp [usedTo]; intro h1 h2; omega
  | succ k ih =>
    unfold usedTo
    rw [List.mem_append, ih]
    cases hk : hasB h ((k : Int) + 1) with
    | true =>
      simp
      constructor
      · rintro (⟨⟨a, b⟩, c⟩ | rfl)
        · exact ⟨⟨a, by omega⟩, c⟩
        · exact ⟨⟨by omega, by omega⟩, hk⟩
      · rintro ⟨⟨a, b⟩, c⟩
        by_cases e : x = k + 1
        · exact .inr e
        · exact .inl ⟨⟨a, by omega⟩, c⟩
    | false =>
      rw [if_neg (by simp)]; simp only [List.mem_nil_iff, or_false]
      constructor
      · rintro ⟨⟨a, b⟩, c⟩; exact ⟨⟨a, by omega⟩, c⟩
      · rintro ⟨⟨a, b⟩, c⟩
        refine ⟨⟨a, ?_⟩, c⟩
        by_cases e : x = k + 1
        · subst e; rw [hk] at c; cases c
        · omega
theorem usedC_len (s : St) : (usedC s).length ≤ 8 := by
  unfold usedC; split
  · exact usedTo_len _ _
  · simp
theorem mem_usedC {s : St} {x : Int} (hs : stv s = true) : x ∈ usedC s ↔ hasB s.h x = true := by
  unfold usedC; rw [if_pos hs, mem_usedTo]
  exact ⟨fun h => h.2, fun h => ⟨has_ad h, h⟩⟩

/-- The way from an address to another one, of at most so many cells. -/
def way (h : List Int) : Nat → Int → Int → Option (List Int)
  | 0, a, b => if a = b then some [] else none
  | k + 1, a, b => if a = b then some [] else if hasB h a then (way h k (cont h a) b).map (a :: ·) else none
def walkC (s : St) (a b : Int) : List Int × Bool := if stv s && vlB a && vlB b then (match way s.h 8 a b with | some l => (l, true) | none => ([], false)) else ([], false)
theorem way_len {h : List Int} {k : Nat} : ∀ {a b : Int} {l : List Int}, way h k a b = some l → l.length ≤ k := by
  induction k with
  | zero =>
    intro a b l hw; unfold way at hw
    split at hw
    · injection hw with hw; subst hw; simp
    · cases hw
  | succ k ih =>
    intro a b l hw; unfold way at hw
    split at hw
    · injection hw with hw; subst hw; simp
    · split at hw
      · cases hq : way h k (cont h a) b with
        | none => rw [hq] at hw; cases hw
        | some m =>
          rw [hq] at hw
          injection hw with hw
          subst hw
          have := ih hq
          simp; omega
      · cases hw
theorem walkC_len (s : St) (a b : Int) : (walkC s a b).1.length ≤ 8 := by
  unfold walkC
  split
  · cases hw : way s.h 8 a b with
    | none => simp
    | some l => exact way_len hw
  · simp

end Go.Proofs.YtifdefkkofngoaaDoor.Pl

/- The plain laws of states: what is written is read, what is allocated is freed, ways compose. No conditions. -/
namespace Go.Proofs.YtifdefkkofngoaaDoor.Pl

theorem stv_v {s : St} (h : stv s = true) : s.v.length = 8 := ((stv_iff s).1 h).1.1
theorem stv_h {s : St} (h : stv s = true) : s.h.length = 8 := ((stv_iff s).1 h).1.2
theorem stv_val {s : St} (h : stv s = true) {t : Int} (ht : tmB t = true) : 0 ≤ tval s.v t ∧ tval s.v t ≤ 8 := by
  unfold tval
  rw [tmB_iff] at ht
  split
  · omega
  · have hl : (t - 1).toNat < s.v.length := by rw [stv_v h]; omega
    rw [List.getD_eq_getElem?_getD, List.getElem?_eq_getElem hl]
    have := ((stv_iff s).1 h).2.1 _ (List.getElem_mem hl)
    rw [vlB_iff] at this; exact this
theorem stv_cont {s : St} (h : stv s = true) (a : Int) : -1 ≤ cont s.h a ∧ cont s.h a ≤ 8 := by
  cases ha : adB a with
  | false => rw [cont_out ha]; omega
  | true =>
    rw [adB_iff] at ha
    obtain ⟨n, rfl⟩ : ∃ n : Nat, a = (n : Int) + 1 := ⟨(a - 1).toNat, by omega⟩
    have hl : n < s.h.length := by rw [stv_h h]; omega
    rw [cont_in hl (stv_h h)]
    have := ((stv_iff s).1 h).2.2 _ (List.getElem_mem hl)
    rw [clB_iff] at this; exact this
theorem mem_set {l : List Int} {i : Nat} {x y : Int} (h : y ∈ l.set i x) : y = x ∨ y ∈ l := by
  rcases List.mem_or_eq_of_mem_set h with h | h
  · exact .inr h
  · exact .inl h
theorem stv_setV {s : St} (h : stv s = true) (i : Nat) {x : Int} (hx : vlB x = true) : stv ⟨s.v.set i x, s.h⟩ = true := by
  rw [stv_iff] at h ⊢
  refine ⟨⟨by simp [h.1.1], h.1.2⟩, fun n hn => ?_, h.2.2⟩
  rcases mem_set hn with rfl | hn
  · exact hx
  · exact h.2.1 n hn
theorem stv_setH {s : St} (h : stv s = true) (i : Nat) {x : Int} (hx : clB x = true) : stv ⟨s.v, s.h.set i x⟩ = true := by
  rw [stv_iff] at h ⊢
  refine ⟨⟨h.1.1, by simp [h.1.2]⟩, h.2.1, fun n hn => ?_⟩
  rcases mem_set hn with rfl | hn
  · exact hx
  · exact h.2.2 n hn
theorem vl_cl {x : Int} (h : vlB x = true) : clB x = true := by rw [vlB_iff] at h; rw [clB_iff]; omega
theorem tval_set {v : List Int} {t x i : Int} (h8 : v.length = 8) (ht : 1 ≤ t ∧ t ≤ 8) (hi : 0 ≤ i ∧ i ≤ 8) : tval (v.set (t - 1).toNat x) i = if i = t then x else tval v i := by
  unfold tval
  by_cases h0 : i = 0
  · rw [if_pos h0, if_pos h0, if_neg (by omega)]
  · rw [if_neg h0, if_neg h0, List.getD_eq_getElem?_getD, List.getD_eq_getElem?_getD, List.getElem?_set]
    by_cases e : i = t
    · subst e; rw [if_pos rfl, if_pos rfl, if_pos (by omega)]; rfl
    · rw [if_neg e, if_neg (by omega)]
theorem set_back {l : List Int} {i : Nat} (x : Int) (hi : i < l.length) : (l.set i x).set i (l.getD i 0) = l := by
  rw [List.set_set, List.getD_eq_getElem?_getD, List.getElem?_eq_getElem hi]
  exact List.set_getElem_self hi
theorem setT_ok {s : St} {t x : Int} : (setT s t x).2 = true ↔ stv s = true ∧ (1 ≤ t ∧ t ≤ 8) ∧ vlB x = true := by
  unfold setT
  cases hs : stv s <;> cases hx : vlB x <;> by_cases h0 : t = 0 <;> cases ht : tmB t <;> simp [h0]
  all_goals first
    | omega
    | (rw [tmB_iff] at ht; omega)
    | (have : ¬ (0 ≤ t ∧ t ≤ 8) := (fun k => by rw [(tmB_iff t).2 k] at ht; cases ht)
       omega)
theorem setT_eq {s : St} {t x : Int} (h : (setT s t x).2 = true) : setT s t x = (⟨s.v.set (t - 1).toNat x, s.h⟩, true) := by
  unfold setT at h ⊢; split at h
  · rename_i hh; rw [if_pos hh]
  · cases h
theorem setT_mk {s : St} {t x : Int} (hs : stv s = true) (ht : 1 ≤ t ∧ t ≤ 8) (hx : vlB x = true) : setT s t x = (⟨s.v.set (t - 1).toNat x, s.h⟩, true) :=
  setT_eq (setT_ok.2 ⟨hs, ht, hx⟩)
/-- An assignment undone. -/
theorem setT_back {s : St} {t x : Int} (hs : stv s = true) (ht : 1 ≤ t ∧ t ≤ 8) (hx : vlB x = true) : setT ⟨s.v.set (t - 1).toNat x, s.h⟩ t (tval s.v t) = (s, true) := by
  have hv := stv_val hs (t := t) ((tmB_iff t).2 (by omega))
  rw [setT_mk (stv_setV hs _ hx) ht ((vlB_iff _).2 hv)]
  have : tval s.v t = s.v.getD (t - 1).toNat 0 := by unfold tval; rw [if_neg (by omega)]
  rw [this, set_back x (by rw [stv_v hs]; omega)]
theorem valueOf_mk {s : St} {t : Int} (hs : stv s = true) (ht : 0 ≤ t ∧ t ≤ 8) : valueOf s t = (tval s.v t, true) := by
  unfold valueOf; rw [hs, (tmB_iff t).2 ht]; rfl

theorem readC_ok {s : St} {a : Int} : (readC s a).2 = true ↔ stv s = true ∧ hasB s.h a = true := by
  unfold readC; cases stv s <;> cases hasB s.h a <;> simp
theorem readC_mk {s : St} {a : Int} (hs : stv s = true) (ha : hasB s.h a = true) : readC s a = (cont s.h a, true) := by unfold readC; rw [hs, ha]; rfl
theorem readC_no {s : St} {a : Int} (ha : hasB s.h a = false) : readC s a = (0, false) := by unfold readC; rw [ha]; simp
theorem writeC_ok {s : St} {a x : Int} : (writeC s a x).2 = true ↔ stv s = true ∧ hasB s.h a = true ∧ vlB x = true := by
  unfold writeC; cases stv s <;> cases hasB s.h a <;> cases vlB x <;> simp
theorem writeC_mk {s : St} {a x : Int} (hs : stv s = true) (ha : hasB s.h a = true) (hx : vlB x = true) : writeC s a x = (⟨s.v, s.h.set (a - 1).toNat x⟩, true) := by unfold writeC; rw [hs, ha, hx]; rfl
theorem writeC_eq {s : St} {a x : Int} (h : (writeC s a x).2 = true) : writeC s a x = (⟨s.v, s.h.set (a - 1).toNat x⟩, true) := by
  obtain ⟨h1, h2, h3⟩ := writeC_ok.1 h; exact writeC_mk h1 h2 h3
theorem writeC_no {s : St} {a x : Int} (ha : hasB s.h a = false) : writeC s a x = (emp, false) := by unfold writeC; rw [ha]; simp
theorem freeC_ok {s : St} {a : Int} : (freeC s a).2 = true ↔ stv s = true ∧ hasB s.h a = true := by
  unfold freeC; cases stv s <;> cases hasB s.h a <;> simp
theorem freeC_mk {s : St} {a : Int} (hs : stv s = true) (ha : hasB s.h a = true) : freeC s a = (⟨s.v, s.h.set (a - 1).toNat (-1)⟩, true) := by unfold freeC; rw [hs, ha]; rfl
theorem freeC_no {s : St} {a : Int} (ha : hasB s.h a = false) : freeC s a = (emp, false) := by unfold freeC; rw [ha]; simp
theorem has_set {h : List Int} {a b x : Int} (h8 : h.length = 8) (ha : 1 ≤ a ∧ a ≤ 8) : hasB (h.set (a - 1).toNat x) b = if b = a then decide (0 ≤ x) else hasB h b := by
  unfold hasB; rw [cont_set h8 ha]; split <;> rfl
theorem cont_getD {h : List Int} {a : Int} (ha : 1 ≤ a ∧ a ≤ 8) : cont h a = h.getD (a - 1).toNat 0 := by unfold cont; rw [if_pos ((adB_iff a).2 ha)]
theorem write_back {s : St} {a : Int} (hs : stv s = true) (ha : 1 ≤ a ∧ a ≤ 8) (x : Int) : (s.h.set (a - 1).toNat x).set (a - 1).toNat (cont s.h a) = s.h := by
  rw [cont_getD ha, set_back x (by rw [stv_h hs]; omega)]
theorem write_same {s : St} {a : Int} (hs : stv s = true) (ha : 1 ≤ a ∧ a ≤ 8) : s.h.set (a - 1).toNat (cont s.h a) = s.h := by
  have := write_back hs ha (cont s.h a); rw [List.set_set] at this; exact this

/-- Reading behind a write. -/
theorem read_write {s : St} {a x : Int} (hs : stv s = true) (ha : hasB s.h a = true) (hx : vlB x = true) (i : Int) :
    readC ⟨s.v, s.h.set (a - 1).toNat x⟩ i = if i = a then (x, true) else readC s i := by
  have h8 := has_ad ha
  have hs' := stv_setH hs (a - 1).toNat (vl_cl hx)
  have hx0 := (vlB_iff x).1 hx
  unfold readC
  rw [hs, hs', has_set (stv_h hs) h8, cont_set (stv_h hs) h8]
  by_cases e : i = a
  · subst e; rw [if_pos rfl, if_pos rfl, if_pos rfl, decide_eq_true hx0.1]; rfl
  · rw [if_neg e, if_neg e, if_neg e]
theorem read_free {s : St} {a : Int} (hs : stv s = true) (ha : hasB s.h a = true) (i : Int) :
    readC ⟨s.v, s.h.set (a - 1).toNat (-1)⟩ i = if i = a then (0, false) else readC s i := by
  have h8 := has_ad ha
  have hs' := stv_setH hs (a - 1).toNat (x := -1) (by decide)
  unfold readC
  rw [hs, hs', has_set (stv_h hs) h8, cont_set (stv_h hs) h8]
  by_cases e : i = a
  · subst e; rw [if_pos rfl, if_pos rfl, if_pos rfl]; rfl
  · rw [if_neg e, if_neg e, if_neg e]

/-! ### Allocation -/
theorem allocC_some {s : St} {n : Nat} (hs : stv s = true) (hf : isFree s.h n) : allocC s = (⟨s.v, s.h.set (n - 1) 0⟩, (n : Int), true) := by
  unfold allocC; rw [hs, afree_some hf]; rfl
theorem allocC_none {s : St} (hf : isFull s.h) : allocC s = (emp, 0, false) := by
  unfold allocC; rw [afree_none hf]; simp
theorem allocC_bad {s : St} (hs : stv s = false) : allocC s = (emp, 0, false) := by unfold allocC; rw [hs]; simp
theorem usedTo_set {h : List Int} {n : Nat} (h8 : h.length = 8) (hn : 1 ≤ n ∧ n ≤ 8) (hf : hasB h (n : Int) = false) (k : Nat) :
    (usedTo (h.set (n - 1) 0) k).length = (usedTo h k).length + if n ≤ k then 1 else 0 := by
  have hs : ∀ b : Int, hasB (h.set (n - 1) 0) b = if b = (n : Int) then true else hasB h b := by
    intro b
    have := has_set (x := 0) (b := b) h8 (a := (n : Int)) (by omega)
    rw [show ((n : Int) - 1).toNat = n - 1 from by omega] at this
    rw [this]; rfl
  induction k with
  | zero => unfold usedTo; rw [if_neg (by omega)]; rfl
  | succ k ih =>
    unfold usedTo
    rw [List.length_append, List.length_append, ih, hs]
    by_cases e : (k : Int) + 1 = (n : Int)
    · have e2 : ¬ n ≤ k := by omega
      have e3 : n ≤ k + 1 := by omega
      rw [if_pos e, e, hf, if_neg e2, if_pos e3]; simp
    · have hiff : n ≤ k + 1 ↔ n ≤ k := by omega
      rw [if_neg e]; simp only [hiff]; omega
/-- What is allocated first is freed again. -/
theorem alloc_free {s : St} {n : Nat} (hs : stv s = true) (hf : isFree s.h n) :
    readC s (n : Int) = (0, false) ∧ freeC ⟨s.v, s.h.set (n - 1) 0⟩ (n : Int) = (s, true) ∧ (usedC ⟨s.v, s.h.set (n - 1) 0⟩).length = (usedC s).length + 1 ∧ stv ⟨s.v, s.h.set (n - 1) 0⟩ = true := by
  obtain ⟨hn, hl, hno⟩ := hf
  have hs' := stv_setH hs (n - 1) (x := 0) (by decide)
  have h8 := stv_h hs
  refine ⟨readC_no hno, ?_, ?_, hs'⟩
  · have hh : hasB (s.h.set (n - 1) 0) (n : Int) = true := by
      have := has_set (x := 0) (b := (n : Int)) h8 (a := (n : Int)) (by omega)
      rw [show ((n : Int) - 1).toNat = n - 1 from by omega, if_pos rfl] at this
      exact this
    rw [freeC_mk hs' hh]
    have hc : cont s.h (n : Int) = -1 := by
      have h1 := stv_cont hs (n : Int)
      have h2 := (hasB_false _ _).1 hno
      omega
    have hb := write_back hs (a := (n : Int)) (by omega) 0
    rw [show ((n : Int) - 1).toNat = n - 1 from by omega] at hb ⊢
    rw [hc] at hb
    show (({ v := s.v, h := (s.h.set (n - 1) 0).set (n - 1) (-1) } : St), true) = (s, true)
    rw [hb]
  · unfold usedC; rw [if_pos hs, if_pos hs', usedTo_set h8 hn hno, if_pos (by omega)]
theorem full_used {s : St} (hs : stv s = true) (hf : isFull s.h) : (usedC s).length = 8 := by
  unfold usedC; rw [if_pos hs]
  have aux : ∀ k : Nat, k ≤ 8 → (usedTo s.h k).length = k := by
    intro k
    induction k with
    | zero => intro _; simp [usedTo]
    | succ k ih =>
      intro hk
      unfold usedTo
      rw [List.length_append, ih (by omega), show ((k : Int) + 1) = ((k + 1 : Nat) : Int) from rfl, hf (k + 1) (by omega) hk]; simp
  exact aux 8 (Nat.le_refl _)

/-! ### Ways -/
def it (h : List Int) : Nat → Int → Int
  | 0, a => a
  | n + 1, a => it h n (cont h a)
theorem it_add (h : List Int) (m n : Nat) (a : Int) : it h (m + n) a = it h n (it h m a) := by
  induction m generalizing a with
  | zero => rw [Nat.zero_add]; rfl
  | succ m ih => rw [show m + 1 + n = (m + n) + 1 from by omega]; exact ih (cont h a)
theorem it_succ (h : List Int) (n : Nat) (a : Int) : it h (n + 1) a = cont h (it h n a) := it_add h n 1 a
structure IsWay (h : List Int) (a b : Int) (n : Nat) : Prop where
  fin : it h n a = b
  has : ∀ i, i < n → hasB h (it h i a) = true
  ne : ∀ i, i < n → it h i a ≠ b
def trail (h : List Int) (a : Int) (n : Nat) : List Int := (List.range n).map fun i => it h i a
theorem trail_len (h : List Int) (a : Int) (n : Nat) : (trail h a n).length = n := by simp [trail]
theorem trail_get (h : List Int) (a : Int) (n i : Nat) (hi : i < (trail h a n).length) : (trail h a n)[i] = it h i a := by simp [trail]
theorem trail_cons (h : List Int) (a : Int) (n : Nat) : trail h a (n + 1) = a :: trail h (cont h a) n := by
  unfold trail; rw [List.range_succ_eq_map, List.map_cons, List.map_map]; rfl
theorem way_mk {h : List Int} {f : Nat} : ∀ {a b : Int} {n : Nat}, IsWay h a b n → n ≤ f → way h f a b = some (trail h a n) := by
  induction f with
  | zero =>
    intro a b n hw hn
    obtain rfl : n = 0 := by omega
    unfold way; rw [if_pos (show a = b from hw.fin)]; rfl
  | succ f ih =>
    intro a b n hw hn
    unfold way
    cases n with
    | zero => rw [if_pos (show a = b from hw.fin)]; rfl
    | succ n =>
      rw [if_neg (show ¬ a = b from hw.ne 0 (by omega)), if_pos (show hasB h a = true from hw.has 0 (by omega)), ih (n := n) ⟨hw.fin, fun i hi => hw.has (i + 1) (by omega), fun i hi => hw.ne (i + 1) (by omega)⟩ (by omega), trail_cons]; rfl
theorem way_is {h : List Int} {f : Nat} : ∀ {a b : Int} {l : List Int}, way h f a b = some l → IsWay h a b l.length ∧ l = trail h a l.length := by
  induction f with
  | zero =>
    intro a b l hw
    unfold way at hw; split at hw
    · injection hw with hw; subst hw; exact ⟨⟨by assumption, fun i hi => absurd hi (Nat.not_lt_zero i), fun i hi => absurd hi (Nat.not_lt_zero i)⟩, rfl⟩
    · cases hw
  | succ f ih =>
    intro a b l hw
    unfold way at hw; split at hw
    · injection hw with hw; subst hw; exact ⟨⟨by assumption, fun i hi => absurd hi (Nat.not_lt_zero i), fun i hi => absurd hi (Nat.not_lt_zero i)⟩, rfl⟩
    · rename_i hne
      split at hw
      · rename_i hh
        cases hq : way h f (cont h a) b with
        | none => rw [hq] at hw; cases hw
        | some m =>
          rw [hq] at hw
          injection hw with hw
          subst hw
          obtain ⟨h1, h2⟩ := ih hq
          refine ⟨⟨h1.fin, fun i hi => ?_, fun i hi => ?_⟩, ?_⟩
          · cases i with
            | zero => exact hh
            | succ i => exact h1.has i (by simpa using hi)
          · cases i with
            | zero => exact hne
            | succ i => exact h1.ne i (by simpa using hi)
          · rw [List.length_cons, trail_cons, ← h2]
      · cases hw
/-- The addresses on a way are different ones. -/
theorem IsWay.apart {h : List Int} {a b : Int} {n : Nat} (k : IsWay h a b n) {i j : Nat} (hij : i < j) (hj : j ≤ n) : it h i a ≠ it h j a := by
  intro e
  have h1 : it h (i + (n - j)) a = b := by
    rw [it_add, e, ← it_add, show j + (n - j) = n from by omega]; exact k.fin
  exact k.ne _ (by omega) h1
theorem walkC_eq {s : St} {a b : Int} (h : (walkC s a b).2 = true) : ∃ n, n ≤ 8 ∧ IsWay s.h a b n ∧ walkC s a b = (trail s.h a n, true) ∧ stv s = true ∧ vlB a = true ∧ vlB b = true := by
  unfold walkC at h ⊢
  cases hs : stv s <;> cases ha : vlB a <;> cases hb : vlB b <;> rw [hs, ha, hb] at h <;> try (simp at h)
  simp only [Bool.and_self, if_true]
  cases hw : way s.h 8 a b with
  | none => rw [hw] at h; simp at h
  | some l =>
    obtain ⟨h1, h2⟩ := way_is hw
    refine ⟨l.length, way_len hw, h1, by rw [← h2], ?_, ?_, ?_⟩ <;> first | rfl | trivial
theorem walkC_mk {s : St} {a b : Int} {n : Nat} (hs : stv s = true) (ha : vlB a = true) (hb : vlB b = true) (hw : IsWay s.h a b n) (hn : n ≤ 8) : walkC s a b = (trail s.h a n, true) := by
  unfold walkC; rw [hs, ha, hb, way_mk hw hn]; rfl
theorem has_vl {h : List Int} {a : Int} (k : hasB h a = true) : vlB a = true := by
  have := has_ad k; rw [vlB_iff]; omega
/-- A way is the way to each of its addresses, and on from there. -/
theorem way_parts {s : St} {a b : Int} {n k : Nat} (hs : stv s = true) (ha : vlB a = true) (hb : vlB b = true) (hw : IsWay s.h a b n) (hn : n ≤ 8) (hk : k < n) :
    walkC s a (it s.h k a) = (trail s.h a k, true) ∧ walkC s (it s.h k a) b = (trail s.h (it s.h k a) (n - k), true) ∧ trail s.h a k ++ trail s.h (it s.h k a) (n - k) = trail s.h a n := by
  refine ⟨walkC_mk hs ha (has_vl (hw.has k hk)) ⟨rfl, fun i hi => hw.has i (by omega), fun i hi => hw.apart hi (by omega)⟩ (by omega),
    walkC_mk hs (has_vl (hw.has k hk)) hb ⟨by rw [← it_add, show k + (n - k) = n from by omega]; exact hw.fin, fun i hi => by rw [← it_add]; exact hw.has _ (by omega), fun i hi => by rw [← it_add]; exact hw.ne _ (by omega)⟩ (by omega), ?_⟩
  unfold trail
  conv => rhs; rw [show n = k + (n - k) from by omega, List.range_add, List.map_append, List.map_map]
  congr 1
  apply List.map_congr_left
  intro i _
  exact (it_add _ _ _ _).symm

/-! ### Lengths of results -/
theorem setT_len (s : St) (t x : Int) {n : Nat} (h1 : s.v.length ≤ n) (h2 : s.h.length ≤ n) : (setT s t x).1.v.length ≤ n ∧ (setT s t x).1.h.length ≤ n := by
  unfold setT; split <;> simp [h1, h2]
theorem writeC_len (s : St) (a x : Int) {n : Nat} (h1 : s.v.length ≤ n) (h2 : s.h.length ≤ n) : (writeC s a x).1.v.length ≤ n ∧ (writeC s a x).1.h.length ≤ n := by
  unfold writeC; split <;> simp [h1, h2]
theorem freeC_len (s : St) (a : Int) {n : Nat} (h1 : s.v.length ≤ n) (h2 : s.h.length ≤ n) : (freeC s a).1.v.length ≤ n ∧ (freeC s a).1.h.length ≤ n := by
  unfold freeC; split <;> simp [h1, h2]
theorem allocC_len (s : St) {n : Nat} (h1 : s.v.length ≤ n) (h2 : s.h.length ≤ n) : (allocC s).1.v.length ≤ n ∧ (allocC s).1.h.length ≤ n := by
  unfold allocC; split
  · cases afree s.h <;> simp [h1, h2]
  · simp

end Go.Proofs.YtifdefkkofngoaaDoor.Pl

/- Texts of atoms and assertions, and what reading them gives: plain lists of bytes. No conditions. -/
namespace Go.Proofs.YtifdefkkofngoaaDoor.Pl
open Go.Lib

/-! ### Atoms -/
def sx (k : Int) : Txt := if k = 2 then [126] else [62]
def txX (x : Atm) : Txt := nm x.a ++ sx x.k ++ nm x.b
def noX : Atm := ⟨0, 0, 0⟩
def pX2 (k : Int) (l r : Txt) : Atm × Bool := if (pT l).2 && (pT r).2 then (⟨k, (pT l).1, (pT r).1⟩, true) else (noX, false)
/-- As the program reads an atom. -/
def pX (s : Txt) : Atm × Bool :=
  if (cut s [62]).2.2 then pX2 1 (cut s [62]).1 (cut s [62]).2.1
  else if (cut s [126]).2.2 then pX2 2 (cut s [126]).1 (cut s [126]).2.1 else (noX, false)
theorem pX_fin : ∀ (k : Bool) (a b : Fin 9), pX (nmN a.val ++ sx (if k then 2 else 1) ++ nmN b.val) = (⟨if k then 2 else 1, (a.val : Int), (b.val : Int)⟩, true) := by decide +kernel
theorem pX_txX {x : Atm} (h : av x = true) : pX (txX x) = (x, true) := by
  obtain ⟨k, a, b⟩ := x
  obtain ⟨hk, ha, hb⟩ := (av_iff _).1 h
  obtain ⟨n, rfl, hn⟩ := tm_of ha
  obtain ⟨m, rfl, hm⟩ := tm_of hb
  show pX (nm (n : Int) ++ sx k ++ nm (m : Int)) = _
  rw [nm_nat hn, nm_nat hm]
  rcases hk with rfl | rfl
  · exact pX_fin false ⟨n, by omega⟩ ⟨m, by omega⟩
  · exact pX_fin true ⟨n, by omega⟩ ⟨m, by omega⟩
theorem pX2_sound {k : Int} {l r : Txt} {x : Atm} (hk : k = 1 ∨ k = 2) (h : pX2 k l r = (x, true)) : x.k = k ∧ av x = true ∧ nm x.a = l ∧ nm x.b = r := by
  unfold pX2 at h
  split at h
  · rename_i hc
    rw [Bool.and_eq_true] at hc
    obtain ⟨h1, h2⟩ := pT_sound (show pT l = ((pT l).1, true) from Prod.ext rfl hc.1)
    obtain ⟨h3, h4⟩ := pT_sound (show pT r = ((pT r).1, true) from Prod.ext rfl hc.2)
    simp only [Prod.mk.injEq, and_true] at h
    subst h
    exact ⟨rfl, (av_iff _).2 ⟨hk, h1, h3⟩, h2, h4⟩
  · simp at h
theorem pX_sound {s : Txt} {x : Atm} (h : pX s = (x, true)) : av x = true ∧ txX x = s := by
  unfold pX at h
  split at h
  · rename_i hc
    obtain ⟨he, hv, ha, hb⟩ := pX2_sound (.inl rfl) h
    have hs := cut_found (show cut s [62] = ((cut s [62]).1, (cut s [62]).2.1, true) from Prod.ext rfl (Prod.ext rfl hc))
    refine ⟨hv, ?_⟩
    unfold txX
    rw [ha, hb, he]
    conv => rhs; rw [hs]
    simp [sx]
  · split at h
    · rename_i hc
      obtain ⟨he, hv, ha, hb⟩ := pX2_sound (.inr rfl) h
      have hs := cut_found (show cut s [126] = ((cut s [126]).1, (cut s [126]).2.1, true) from Prod.ext rfl (Prod.ext rfl hc))
      refine ⟨hv, ?_⟩
      unfold txX
      rw [ha, hb, he]
      conv => rhs; rw [hs]
      simp [sx]
    · simp at h
theorem pX_no {s : Txt} (h : (pX s).2 = false) : pX s = (noX, false) := by
  unfold pX at h ⊢
  have aux : ∀ k l r, (pX2 k l r).2 = false → pX2 k l r = (noX, false) := by
    intro k l r h
    unfold pX2 at h ⊢
    split
    · rename_i h2; rw [if_pos h2] at h; cases h
    · rfl
  split
  · rename_i hc; rw [if_pos hc] at h; exact aux _ _ _ h
  · rename_i hc
    rw [if_neg hc] at h
    split
    · rename_i hd; rw [if_pos hd] at h; exact aux _ _ _ h
    · rfl
theorem sx_len (k : Int) : (sx k).length = 1 := by unfold sx; split <;> rfl
theorem txX_len (x : Atm) : (txX x).length ≤ 7 := by
  unfold txX
  have := nm_len x.a
  have := nm_len x.b
  have := sx_len x.k
  simp only [List.length_append]; omega
theorem txX_inj {x y : Atm} (hx : av x = true) (hy : av y = true) (h : txX x = txX y) : x = y := by
  have h1 := pX_txX hx
  rw [h, pX_txX hy] at h1
  exact (congrArg Prod.fst h1).symm
theorem txX_mem {x : Atm} {c : UInt8} (h : c ∈ txX x) : 97 ≤ c ∨ c = 62 := by
  unfold txX at h
  rw [List.mem_append, List.mem_append] at h
  rcases h with (h | h) | h
  · exact .inl (nm_low h)
  · unfold sx at h
    split at h
    · rw [List.mem_singleton.1 h]; exact .inl (by decide)
    · rw [List.mem_singleton.1 h]; exact .inr rfl
  · exact .inl (nm_low h)
theorem txX_ne (x : Atm) : txX x ≠ [] := by
  unfold txX sx; split <;> simp

/-! ### Assertions -/
def tTrue : Txt := [116, 114, 117, 101]
def tEmp : Txt := [101, 109, 112]
def sepF : Txt := [32, 38, 32]
def sepX : Txt := [32, 42, 32]
def sepB : Txt := [32, 124, 32]
def fTx (l : List Fct) : Txt := if l = [] then tTrue else Go.Lib.join (l.map txF) sepF
def aTx (l : List Atm) : Txt := if l = [] then tEmp else Go.Lib.join (l.map txX) sepX
def txA (a : Asr) : Txt := fTx a.f ++ sepB ++ aTx a.a
def fmtA (a : Asr) : Txt := if asv a then txA a else []
theorem txA_ne (a : Asr) : txA a ≠ [] := by unfold txA sepB; simp
theorem mem_joinTail {sep : Txt} {c : UInt8} {ps : List Txt} (h : c ∈ joinTail sep ps) : c ∈ sep ∨ ∃ p ∈ ps, c ∈ p := by
  unfold joinTail at h
  obtain ⟨q, hq, hc⟩ := List.mem_flatten.1 h
  obtain ⟨p, hp, rfl⟩ := List.mem_map.1 hq
  rcases List.mem_append.1 hc with h | h
  · exact .inl h
  · exact .inr ⟨p, hp, h⟩
theorem mem_join {sep : Txt} {c : UInt8} {ps : List Txt} (h : c ∈ Go.Lib.join ps sep) : c ∈ sep ∨ ∃ p ∈ ps, c ∈ p := by
  cases ps with
  | nil => rw [Go.Lib.join_nil] at h; cases h
  | cons p l =>
    rw [join_cons] at h
    rcases List.mem_append.1 h with h | h
    · exact .inr ⟨p, by simp, h⟩
    · rcases mem_joinTail h with h | ⟨q, hq, h⟩
      · exact .inl h
      · exact .inr ⟨q, List.mem_cons_of_mem _ hq, h⟩
theorem fTx_no {l : List Fct} : (124 : UInt8) ∉ fTx l := by
  intro h
  unfold fTx at h
  split at h
  · revert h; decide
  · rcases mem_join h with h | ⟨p, hp, h⟩
    · revert h; decide
    · obtain ⟨f, _, rfl⟩ := List.mem_map.1 hp
      unfold txF at h
      rw [List.mem_append, List.mem_append] at h
      rcases h with (h | h) | h
      · exact nm_not (by decide) h
      · cases he : f.e <;> rw [he] at h <;> revert h <;> decide
      · exact nm_not (by decide) h
where
  nm_not {t : Int} {c : UInt8} (hc : c = 124) (h : c ∈ nm t) : False := by
    subst hc
    unfold nm at h
    split at h
    · rename_i ht
      have := (tmB_iff t).1 ht
      exact (show ∀ a : Fin 9, (124 : UInt8) ∉ nmN a.val by decide) ⟨t.toNat, by omega⟩ h
    · cases h

/-- As the program reads the facts of a text, and its atoms. -/
def pFs : List Txt → List Fct → Option (List Fct)
  | [], acc => some acc
  | p :: ps, acc => if (pF p).2 && !decide (acc.length = 12) then pFs ps (acc ++ [(pF p).1]) else none
def pXs : List Txt → List Atm → Option (List Atm)
  | [], acc => some acc
  | p :: ps, acc => if (pX p).2 && !decide (acc.length = 6) then pXs ps (acc ++ [(pX p).1]) else none
def pFt (s : Txt) : Option (List Fct) := if s = tTrue then some [] else pFs (split s sepF) []
def pXt (s : Txt) : Option (List Atm) := if s = tEmp then some [] else pXs (split s sepX) []
def pA2 (l r : Txt) : Asr × Bool := match pFt l with
  | none => (noA, false)
  | some f => match pXt r with
    | none => (noA, false)
    | some a => (⟨f, a⟩, true)
def pA (s : Txt) : Asr × Bool := if (cut s sepB).2.2 then pA2 (cut s sepB).1 (cut s sepB).2.1 else (noA, false)
theorem pFs_sound : ∀ {ps : List Txt} {acc l : List Fct}, pFs ps acc = some l → acc.length ≤ 12 → ∃ m, l = acc ++ m ∧ m.map txF = ps ∧ (∀ f ∈ m, fv f = true) ∧ l.length ≤ 12
  | [], acc, l, h, ha => by unfold pFs at h; injection h with h; subst h; exact ⟨[], by simp, rfl, by simp, ha⟩
  | p :: ps, acc, l, h, ha => by
    unfold pFs at h
    split at h
    · rename_i hc
      rw [Bool.and_eq_true, Bool.not_eq_true', decide_eq_false_iff_not] at hc
      obtain ⟨h1, h2⟩ := pF_sound (show pF p = ((pF p).1, true) from Prod.ext rfl hc.1)
      obtain ⟨m, k1, k2, k3, k4⟩ := pFs_sound h (by simp; omega)
      refine ⟨(pF p).1 :: m, by rw [k1]; simp, by rw [List.map_cons, h2, k2], ?_, k4⟩
      intro f hf
      rcases List.mem_cons.1 hf with rfl | hf
      · exact h1
      · exact k3 f hf
    · cases h
theorem pXs_sound : ∀ {ps : List Txt} {acc l : List Atm}, pXs ps acc = some l → acc.length ≤ 6 → ∃ m, l = acc ++ m ∧ m.map txX = ps ∧ (∀ f ∈ m, av f = true) ∧ l.length ≤ 6
  | [], acc, l, h, ha => by unfold pXs at h; injection h with h; subst h; exact ⟨[], by simp, rfl, by simp, ha⟩
  | p :: ps, acc, l, h, ha => by
    unfold pXs at h
    split at h
    · rename_i hc
      rw [Bool.and_eq_true, Bool.not_eq_true', decide_eq_false_iff_not] at hc
      obtain ⟨h1, h2⟩ := pX_sound (show pX p = ((pX p).1, true) from Prod.ext rfl hc.1)
      obtain ⟨m, k1, k2, k3, k4⟩ := pXs_sound h (by simp; omega)
      refine ⟨(pX p).1 :: m, by rw [k1]; simp, by rw [List.map_cons, h2, k2], ?_, k4⟩
      intro f hf
      rcases List.mem_cons.1 hf with rfl | hf
      · exact h1
      · exact k3 f hf
    · cases h
theorem pFs_map : ∀ {l acc : List Fct}, (∀ f ∈ l, fv f = true) → acc.length + l.length ≤ 12 → pFs (l.map txF) acc = some (acc ++ l)
  | [], acc, _, _ => by simp [pFs]
  | f :: l, acc, hv, hl => by
    rw [List.length_cons] at hl
    rw [List.map_cons]
    unfold pFs
    rw [pF_txF (hv f (by simp)), if_pos (by simp; omega), pFs_map (fun g hg => hv g (List.mem_cons_of_mem _ hg)) (by simp; omega)]
    simp
theorem pXs_map : ∀ {l acc : List Atm}, (∀ f ∈ l, av f = true) → acc.length + l.length ≤ 6 → pXs (l.map txX) acc = some (acc ++ l)
  | [], acc, _, _ => by simp [pXs]
  | f :: l, acc, hv, hl => by
    rw [List.length_cons] at hl
    rw [List.map_cons]
    unfold pXs
    rw [pX_txX (hv f (by simp)), if_pos (by simp; omega), pXs_map (fun g hg => hv g (List.mem_cons_of_mem _ hg)) (by simp; omega)]
    simp
theorem pFt_sound {s : Txt} {l : List Fct} (h : pFt s = some l) : fTx l = s ∧ (∀ f ∈ l, fv f = true) ∧ l.length ≤ 12 := by
  unfold pFt at h
  split at h
  · rename_i e; injection h with h; subst h; exact ⟨e.symm, by simp, by simp⟩
  · obtain ⟨m, k1, k2, k3, k4⟩ := pFs_sound h (by simp)
    simp only [List.nil_append] at k1
    subst k1
    refine ⟨?_, k3, k4⟩
    unfold fTx
    rw [if_neg (by rintro rfl; exact split_ne s sepF k2.symm), k2, join_split]
theorem pXt_sound {s : Txt} {l : List Atm} (h : pXt s = some l) : aTx l = s ∧ (∀ f ∈ l, av f = true) ∧ l.length ≤ 6 := by
  unfold pXt at h
  split at h
  · rename_i e; injection h with h; subst h; exact ⟨e.symm, by simp, by simp⟩
  · obtain ⟨m, k1, k2, k3, k4⟩ := pXs_sound h (by simp)
    simp only [List.nil_append] at k1
    subst k1
    refine ⟨?_, k3, k4⟩
    unfold aTx
    rw [if_neg (by rintro rfl; exact split_ne s sepX k2.symm), k2, join_split]
theorem lows {c : UInt8} (h : 97 ≤ c) : c ≠ 38 ∧ c ≠ 42 ∧ c ≠ 32 := by
  refine ⟨?_, ?_, ?_⟩ <;> (rintro rfl; revert h; decide)
theorem pFt_fTx {l : List Fct} (hv : ∀ f ∈ l, fv f = true) (hl : l.length ≤ 12) : pFt (fTx l) = some l := by
  unfold pFt fTx
  by_cases e : l = []
  · subst e; simp
  · rw [if_neg e]
    have hs : split (Go.Lib.join (l.map txF) sepF) sepF = l.map txF := split_of_join (c := 38) (j := 1) rfl (by intro i hi; obtain rfl : i = 0 := (by omega); decide) (by simpa using e) (by
      intro p hp h
      obtain ⟨f, _, rfl⟩ := List.mem_map.1 hp
      rcases txF_mem h with h | h | h
      · exact (lows h).1 rfl
      · revert h; decide
      · revert h; decide)
    have hne : Go.Lib.join (l.map txF) sepF ≠ tTrue := by
      intro h
      rw [h] at hs
      have h2 := (pF_sound (s := tTrue) (f := (l.head e)) (by
        cases l with
        | nil => exact absurd rfl e
        | cons f l =>
          have h3 : tTrue = txF f := by
            have := congrArg List.head? hs
            rw [show split tTrue sepF = [tTrue] from by decide] at this
            simpa using this
          rw [h3]; exact pF_txF (hv f (by simp)))).2
      have : (pF tTrue).2 = false := by decide
      rw [← h2, pF_txF (hv _ (List.head_mem e))] at this
      cases this
    rw [if_neg hne, hs, pFs_map hv (by simpa using hl)]
    simp
theorem pXt_aTx {l : List Atm} (hv : ∀ f ∈ l, av f = true) (hl : l.length ≤ 6) : pXt (aTx l) = some l := by
  unfold pXt aTx
  by_cases e : l = []
  · subst e; simp
  · rw [if_neg e]
    have hs : split (Go.Lib.join (l.map txX) sepX) sepX = l.map txX := split_of_join (c := 42) (j := 1) rfl (by intro i hi; obtain rfl : i = 0 := (by omega); decide) (by simpa using e) (by
      intro p hp h
      obtain ⟨f, _, rfl⟩ := List.mem_map.1 hp
      rcases txX_mem h with h | h
      · exact (lows h).2.1 rfl
      · revert h; decide)
    have hne : Go.Lib.join (l.map txX) sepX ≠ tEmp := by
      intro h
      rw [h] at hs
      cases l with
      | nil => exact absurd rfl e
      | cons f l =>
        have h3 : tEmp = txX f := by
          have := congrArg List.head? hs
          rw [show split tEmp sepX = [tEmp] from by decide] at this
          simpa using this
        have h4 : (pX tEmp).2 = false := by decide
        rw [h3, pX_txX (hv f (by simp))] at h4
        cases h4
    rw [if_neg hne, hs, pXs_map hv (by simpa using hl)]
    simp
theorem pA_txA {a : Asr} (h : asv a = true) : pA (txA a) = (a, true) := by
  obtain ⟨f, x⟩ := a
  obtain ⟨h1, h2, h3⟩ := (asv_iff _).1 h
  obtain ⟨h4, h5⟩ := (fsv_iff _).1 h1
  have hc : cut (txA ⟨f, x⟩) sepB = (fTx f, aTx x, true) := cut_sep (c := 124) (j := 1) fTx_no rfl (by intro i hi; obtain rfl : i = 0 := (by omega); decide)
  unfold pA
  rw [hc, if_pos rfl]
  unfold pA2
  rw [pFt_fTx h5 h4, pXt_aTx h3 h2]
theorem pA_sound {s : Txt} {a : Asr} (h : pA s = (a, true)) : asv a = true ∧ txA a = s := by
  unfold pA at h
  split at h
  · rename_i hc
    have hs := cut_found (show cut s sepB = ((cut s sepB).1, (cut s sepB).2.1, true) from Prod.ext rfl (Prod.ext rfl hc))
    unfold pA2 at h
    cases hf : pFt (cut s sepB).1 with
    | none => rw [hf] at h; simp at h
    | some f =>
      rw [hf] at h
      cases hx : pXt (cut s sepB).2.1 with
      | none => rw [hx] at h; simp at h
      | some x =>
        rw [hx] at h
        simp only [Prod.mk.injEq, and_true] at h
        subst h
        obtain ⟨k1, k2, k3⟩ := pFt_sound hf
        obtain ⟨j1, j2, j3⟩ := pXt_sound hx
        refine ⟨(asv_iff _).2 ⟨(fsv_iff _).2 ⟨k3, k2⟩, j3, j2⟩, ?_⟩
        unfold txA
        rw [k1, j1]; exact hs.symm
  · simp at h
theorem pA_no {s : Txt} (h : (pA s).2 = false) : pA s = (noA, false) := by
  unfold pA at h ⊢
  split
  · rename_i hc
    rw [if_pos hc] at h
    unfold pA2 at h ⊢
    cases hf : pFt (cut s sepB).1 with
    | none => rfl
    | some f =>
      rw [hf] at h
      cases hx : pXt (cut s sepB).2.1 with
      | none => rfl
      | some x => rw [hx] at h; cases h
  · rfl
theorem pA_is {s : Txt} {a : Asr} (h : asv a = true) (e : txA a = s) : pA s = (a, true) := by rw [← e]; exact pA_txA h
theorem pA_not {s : Txt} (h : ∀ a, asv a = true → txA a ≠ s) : pA s = (noA, false) := by
  refine pA_no ?_
  rw [Bool.eq_false_iff]
  intro e
  obtain ⟨h1, h2⟩ := pA_sound (show pA s = ((pA s).1, true) from Prod.ext rfl e)
  exact h _ h1 h2
theorem txA_inj {a b : Asr} (ha : asv a = true) (hb : asv b = true) (h : txA a = txA b) : a = b := by
  have h1 := pA_txA ha
  rw [h, pA_txA hb] at h1
  exact (congrArg Prod.fst h1).symm
theorem lens_le {n : Nat} : ∀ {ps : List Txt}, (∀ p ∈ ps, p.length ≤ n) → lens ps ≤ n * ps.length
  | [], _ => by simp [lens]
  | p :: ps, h => by
    have h1 := h p (by simp)
    have h2 := lens_le (n := n) (ps := ps) (fun q hq => h q (List.mem_cons_of_mem _ hq))
    simp only [lens, List.map_cons, List.sum_cons, List.length_cons] at h2 ⊢
    rw [Nat.mul_succ]; omega
theorem join_len {n m : Nat} {ps : List Txt} {sep : Txt} (h : ∀ p ∈ ps, p.length ≤ n) (hl : ps.length ≤ m) : (Go.Lib.join ps sep).length ≤ n * m + sep.length * m := by
  cases ps with
  | nil => rw [Go.Lib.join_nil]; simp
  | cons p l =>
    rw [join_cons, List.length_append, joinTail_length]
    have h1 := lens_le h
    simp only [lens, List.map_cons, List.sum_cons] at h1
    have h2 : n * (p :: l).length ≤ n * m := Nat.mul_le_mul_left _ hl
    have h3 : sep.length * l.length ≤ sep.length * m := Nat.mul_le_mul_left _ (by simp at hl; omega)
    simp only [lens] at *
    omega
theorem txA_len {a : Asr} (h : asv a = true) : (txA a).length ≤ 250 := by
  obtain ⟨h1, h2⟩ := asv_len h
  have k1 : (fTx a.f).length ≤ 132 := by
    unfold fTx
    split
    · decide
    · have := join_len (n := 8) (m := 12) (sep := sepF) (ps := a.f.map txF) (by intro p hp; obtain ⟨f, _, rfl⟩ := List.mem_map.1 hp; exact txF_len f) (by simpa using h1)
      exact this
  have k2 : (aTx a.a).length ≤ 60 := by
    unfold aTx
    split
    · decide
    · have := join_len (n := 7) (m := 6) (sep := sepX) (ps := a.a.map txX) (by intro p hp; obtain ⟨f, _, rfl⟩ := List.mem_map.1 hp; exact txX_len f) (by simpa using h2)
      exact this
  unfold txA
  simp only [List.length_append]
  have : sepB.length = 3 := rfl
  omega

end Go.Proofs.YtifdefkkofngoaaDoor.Pl

/- Texts of states, and what reading them gives: plain lists of bytes. No conditions. -/
namespace Go.Proofs.YtifdefkkofngoaaDoor.Pl
open Go.Lib

/-! ### Digits -/
def dg (n : Int) : Txt := [UInt8.ofNat (48 + n.toNat)]
def pD (s : Txt) : Int × Bool := match s with
  | [c] => if 48 ≤ c ∧ c ≤ 56 then ((c.toNat : Int) - 48, true) else (0, false)
  | _ => (0, false)
theorem dg_fin : ∀ n : Fin 9, pD [UInt8.ofNat (48 + n.val)] = ((n.val : Int), true) := by decide
theorem pD_dg {n : Int} (h : 0 ≤ n ∧ n ≤ 8) : pD (dg n) = (n, true) := by
  obtain ⟨k, rfl⟩ := Int.eq_ofNat_of_zero_le h.1
  exact dg_fin ⟨k, by omega⟩
theorem pD_sound {s : Txt} {n : Int} (h : pD s = (n, true)) : (0 ≤ n ∧ n ≤ 8) ∧ s = dg n := by
  unfold pD at h
  split at h
  · rename_i c
    split at h
    · rename_i hc
      simp only [Prod.mk.injEq, and_true] at h
      have h1 : 48 ≤ c.toNat := hc.1
      have h2 : c.toNat ≤ 56 := hc.2
      subst h
      refine ⟨by omega, ?_⟩
      unfold dg
      rw [show 48 + ((c.toNat : Int) - 48).toNat = c.toNat from by omega, UInt8.ofNat_toNat]
    · simp at h
  · simp at h
theorem pD_no {s : Txt} (h : (pD s).2 = false) : pD s = (0, false) := by
  unfold pD at h ⊢
  split
  · rename_i c
    split
    · rename_i hc; simp only [hc] at h; simp at h
    · rfl
  · rfl
theorem dg_low {n : Int} (h : 0 ≤ n ∧ n ≤ 8) : ∀ c ∈ dg n, 48 ≤ c ∧ c ≤ 56 := by
  obtain ⟨k, rfl⟩ := Int.eq_ofNat_of_zero_le h.1
  exact (show ∀ k : Fin 9, ∀ c ∈ dg (k.val : Int), 48 ≤ c ∧ c ≤ 56 by decide) ⟨k, by omega⟩
theorem dg_len (n : Int) : (dg n).length = 1 := rfl

/-! ### Texts -/
def pre (i : Nat) : Txt := nmN (i + 1) ++ [61]
def vTx (i : Nat) (n : Int) : Txt := pre i ++ dg n
def hTx (i : Nat) (n : Int) : Txt := dg ((i : Int) + 1) ++ [62] ++ dg n
def vParts : Nat → List Int → List Txt
  | _, [] => []
  | i, n :: l => vTx i n :: vParts (i + 1) l
def hParts : Nat → List Int → List Txt
  | _, [] => []
  | i, n :: l => if 0 ≤ n then hTx i n :: hParts (i + 1) l else hParts (i + 1) l
def txS (s : St) : Txt := Go.Lib.join (vParts 0 s.v ++ hParts 0 s.h) [32]
def fmtS (s : St) : Txt := if stv s then txS s else []
theorem vParts_len : ∀ (l : List Int) (i : Nat), (vParts i l).length = l.length
  | [], _ => rfl
  | n :: l, i => by unfold vParts; rw [List.length_cons, vParts_len l, List.length_cons]
theorem hParts_len : ∀ (l : List Int) (i : Nat), (hParts i l).length ≤ l.length
  | [], _ => Nat.le_refl _
  | n :: l, i => by
    have := hParts_len l (i + 1)
    unfold hParts; split <;> simp <;> omega
theorem vParts_snoc : ∀ (l : List Int) (i : Nat) (n : Int), vParts i (l ++ [n]) = vParts i l ++ [vTx (i + l.length) n]
  | [], i, n => rfl
  | m :: l, i, n => by
    rw [List.cons_append]
    unfold vParts
    rw [vParts_snoc l, List.length_cons, List.cons_append, show i + 1 + l.length = i + (l.length + 1) from by omega]
theorem hParts_snoc : ∀ (l : List Int) (i : Nat) (n : Int), hParts i (l ++ [n]) = hParts i l ++ (if 0 ≤ n then [hTx (i + l.length) n] else [])
  | [], i, n => by simp [hParts]
  | m :: l, i, n => by
    rw [List.cons_append]
    unfold hParts
    rw [hParts_snoc l, List.length_cons, show i + 1 + l.length = i + (l.length + 1) from by omega]
    split <;> simp
/-- The parts, each with a space behind it: less the last. -/
theorem join_spaced : ∀ (ps : List Txt), ps ≠ [] → (ps.map (· ++ [32])).flatten = Go.Lib.join ps [32] ++ [32]
  | [], h => absurd rfl h
  | [p], _ => by rw [join_one]; simp
  | p :: q :: l, _ => by
    have := join_spaced (q :: l) (by simp)
    rw [List.map_cons, List.flatten_cons, this, join_two]; simp [List.append_assoc]
theorem lows32 {c : UInt8} (h : 48 ≤ c) : c ≠ 32 := by rintro rfl; revert h; decide
theorem pre_no {i : Nat} (hi : i < 8) : (32 : UInt8) ∉ pre i := by
  exact (show ∀ k : Fin 8, (32 : UInt8) ∉ pre k.val by decide) ⟨i, hi⟩
theorem pre_len {i : Nat} (hi : i < 8) : (pre i).length = 2 := (show ∀ k : Fin 8, (pre k.val).length = 2 by decide) ⟨i, hi⟩
theorem vTx_no {i : Nat} {n : Int} (hi : i < 8) (hn : 0 ≤ n ∧ n ≤ 8) : (32 : UInt8) ∉ vTx i n := by
  unfold vTx; rw [List.mem_append]
  rintro (h | h)
  · exact pre_no hi h
  · exact lows32 (dg_low hn _ h).1 rfl
theorem hTx_no {i : Nat} {n : Int} (hi : i < 8) (hn : 0 ≤ n ∧ n ≤ 8) : (32 : UInt8) ∉ hTx i n := by
  unfold hTx; rw [List.mem_append, List.mem_append]
  rintro ((h | h) | h)
  · exact lows32 (dg_low (by omega) _ h).1 rfl
  · revert h; decide
  · exact lows32 (dg_low hn _ h).1 rfl
theorem vParts_all {P : Txt → Prop} : ∀ (l : List Int) (i : Nat), i + l.length ≤ 8 → (∀ n ∈ l, 0 ≤ n ∧ n ≤ 8) → (∀ i n, i < 8 → 0 ≤ n ∧ n ≤ 8 → P (vTx i n)) → ∀ p ∈ vParts i l, P p
  | [], _, _, _, _, p, hp => by cases hp
  | n :: l, i, hi, hv, hP, p, hp => by
    rw [List.length_cons] at hi
    unfold vParts at hp
    rcases List.mem_cons.1 hp with rfl | hp
    · exact hP _ _ (by omega) (hv n (by simp))
    · exact vParts_all l (i + 1) (by omega) (fun m hm => hv m (List.mem_cons_of_mem _ hm)) hP p hp
theorem hParts_all {P : Txt → Prop} : ∀ (l : List Int) (i : Nat), i + l.length ≤ 8 → (∀ n ∈ l, -1 ≤ n ∧ n ≤ 8) → (∀ i n, i < 8 → 0 ≤ n ∧ n ≤ 8 → P (hTx i n)) → ∀ p ∈ hParts i l, P p
  | [], _, _, _, _, p, hp => by cases hp
  | n :: l, i, hi, hv, hP, p, hp => by
    rw [List.length_cons] at hi
    have hr := fun p hp => hParts_all l (i + 1) (by omega) (fun m hm => hv m (List.mem_cons_of_mem _ hm)) hP p hp
    unfold hParts at hp
    split at hp
    · rename_i h0
      rcases List.mem_cons.1 hp with rfl | hp
      · have := hv n (by simp); exact hP _ _ (by omega) (by omega)
      · exact hr p hp
    · exact hr p hp
theorem stv_vals {s : St} (h : stv s = true) : ∀ n ∈ s.v, 0 ≤ n ∧ n ≤ 8 := fun n hn => (vlB_iff n).1 (((stv_iff s).1 h).2.1 n hn)
theorem stv_cells {s : St} (h : stv s = true) : ∀ n ∈ s.h, -1 ≤ n ∧ n ≤ 8 := fun n hn => (clB_iff n).1 (((stv_iff s).1 h).2.2 n hn)
theorem parts_all {s : St} (h : stv s = true) {P : Txt → Prop} (h1 : ∀ i n, i < 8 → 0 ≤ n ∧ n ≤ 8 → P (vTx i n)) (h2 : ∀ i n, i < 8 → 0 ≤ n ∧ n ≤ 8 → P (hTx i n)) : ∀ p ∈ vParts 0 s.v ++ hParts 0 s.h, P p := by
  intro p hp
  rcases List.mem_append.1 hp with hp | hp
  · exact vParts_all s.v 0 (by rw [stv_v h]; omega) (stv_vals h) h1 p hp
  · exact hParts_all s.h 0 (by rw [stv_h h]; omega) (stv_cells h) h2 p hp
theorem parts_ne {s : St} (h : stv s = true) : vParts 0 s.v ++ hParts 0 s.h ≠ [] := by
  intro e
  have := congrArg List.length e
  rw [List.length_append, vParts_len, stv_v h] at this
  simp at this
theorem txS_len {s : St} (h : stv s = true) : (txS s).length ≤ 70 := by
  have h1 : (vParts 0 s.v ++ hParts 0 s.h).length ≤ 16 := by
    have := hParts_len s.h 0
    rw [List.length_append, vParts_len, stv_v h]; rw [stv_h h] at this; omega
  have := join_len (n := 3) (m := 16) (sep := [32]) (ps := vParts 0 s.v ++ hParts 0 s.h) (parts_all h (by intro i n hi hn; unfold vTx; rw [List.length_append, pre_len hi, dg_len]; exact Nat.le_refl _) (by intro i n hi hn; unfold hTx; rw [List.length_append, List.length_append, dg_len, dg_len]; exact Nat.le_refl _)) h1
  unfold txS
  simp only [List.length_singleton] at this
  omega
theorem split_txS {s : St} (h : stv s = true) : split (txS s) [32] = vParts 0 s.v ++ hParts 0 s.h :=
  split_of_join (c := 32) (j := 0) rfl (fun i hi => by omega) (parts_ne h) (parts_all h (fun i n hi hn => vTx_no hi hn) (fun i n hi hn => hTx_no hi hn))

/-! ### As the program reads a state -/
def pV (i : Nat) (p : Txt) : Option Int := if hasPrefix p (pre i) && (pD (trimPrefix p (pre i))).2 then some (pD (trimPrefix p (pre i))).1 else none
def pVs : List Txt → Nat → List Int → Option (List Int)
  | [], _, acc => some acc
  | p :: ps, i, acc => match pV i p with
    | some n => pVs ps (i + 1) (acc ++ [n])
    | none => none
def pH (p : Txt) (last : Int) : Option (Int × Int) := if (cut p [62]).2.2 && (pD (cut p [62]).1).2 && (pD (cut p [62]).2.1).2 && decide (last < (pD (cut p [62]).1).1) then some ((pD (cut p [62]).1).1, (pD (cut p [62]).2.1).1) else none
def pHs : List Txt → Int → List Int → Option (List Int)
  | [], _, h => some h
  | p :: ps, last, h => match pH p last with
    | some (a, n) => pHs ps a (h.set (a - 1).toNat n)
    | none => none
def noH : List Int := [-1, -1, -1, -1, -1, -1, -1, -1]
def pS2 (ps : List Txt) : St × Bool := if ps.length < 8 ∨ 16 < ps.length then (emp, false) else match pVs (ps.take 8) 0 [] with
  | none => (emp, false)
  | some v => match pHs (ps.drop 8) 0 noH with
    | none => (emp, false)
    | some h => (⟨v, h⟩, true)
def pS (s : Txt) : St × Bool := pS2 (split s [32])
theorem pV_tx {i : Nat} {n : Int} (hn : 0 ≤ n ∧ n ≤ 8) : pV i (vTx i n) = some n := by
  have hp : hasPrefix (vTx i n) (pre i) = true := by unfold hasPrefix vTx; rw [List.isPrefixOf_iff_prefix]; exact List.prefix_append _ _
  have ht : trimPrefix (vTx i n) (pre i) = dg n := by unfold trimPrefix; rw [if_pos hp]; unfold vTx; rw [List.drop_left]
  unfold pV
  rw [hp, ht, pD_dg hn]; rfl
theorem pV_sound {i : Nat} {p : Txt} {n : Int} (h : pV i p = some n) : (0 ≤ n ∧ n ≤ 8) ∧ p = vTx i n := by
  unfold pV at h
  split at h
  · rename_i hc
    rw [Bool.and_eq_true] at hc
    injection h with h
    obtain ⟨h1, h2⟩ := pD_sound (show pD (trimPrefix p (pre i)) = (n, true) from Prod.ext h hc.2)
    refine ⟨h1, ?_⟩
    have hp := hc.1
    unfold hasPrefix at hp
    obtain ⟨t, rfl⟩ := List.isPrefixOf_iff_prefix.1 hp
    unfold trimPrefix at h2
    rw [if_pos hc.1, List.drop_left] at h2
    subst h2
    rfl
  · cases h
theorem pVs_parts : ∀ (l : List Int) (i : Nat) (acc : List Int), (∀ n ∈ l, 0 ≤ n ∧ n ≤ 8) → pVs (vParts i l) i acc = some (acc ++ l)
  | [], i, acc, _ => by simp [vParts, pVs]
  | n :: l, i, acc, hv => by
    unfold vParts pVs
    rw [pV_tx (hv n (by simp))]
    simp only
    rw [pVs_parts l (i + 1) _ (fun m hm => hv m (List.mem_cons_of_mem _ hm))]
    simp
theorem pVs_sound : ∀ (ps : List Txt) (i : Nat) (acc l : List Int), pVs ps i acc = some l → ∃ m, l = acc ++ m ∧ ps = vParts i m ∧ ∀ n ∈ m, 0 ≤ n ∧ n ≤ 8
  | [], i, acc, l, h => by unfold pVs at h; injection h with h; subst h; exact ⟨[], by simp, rfl, by simp⟩
  | p :: ps, i, acc, l, h => by
    unfold pVs at h
    split at h
    · rename_i n hn
      obtain ⟨h1, rfl⟩ := pV_sound hn
      obtain ⟨m, k1, k2, k3⟩ := pVs_sound ps (i + 1) _ l h
      refine ⟨n :: m, by rw [k1]; simp, by unfold vParts; rw [k2], ?_⟩
      intro x hx
      rcases List.mem_cons.1 hx with rfl | hx
      · exact h1
      · exact k3 x hx
    · cases h
theorem cut_hTx {i : Nat} {n : Int} (hi : i < 8) : cut (hTx i n) [62] = (dg ((i : Int) + 1), dg n, true) := by
  unfold hTx
  refine cut_sep (c := 62) (j := 0) ?_ rfl (fun i hi => by omega)
  intro h
  have h2 := (dg_low (n := (i : Int) + 1) (by omega) _ h).2
  revert h2; decide
theorem pH_tx {i : Nat} {n last : Int} (hi : i < 8) (hn : 0 ≤ n ∧ n ≤ 8) (hl : last ≤ i) : pH (hTx i n) last = some ((i : Int) + 1, n) := by
  unfold pH
  rw [cut_hTx hi]
  simp only
  rw [pD_dg (show 0 ≤ (i : Int) + 1 ∧ (i : Int) + 1 ≤ 8 by omega), pD_dg hn, decide_eq_true (show last < (i : Int) + 1 by omega)]
  rfl
theorem pH_sound {p : Txt} {last a n : Int} (h : pH p last = some (a, n)) (hl : 0 ≤ last) : (∃ i : Nat, a = (i : Int) + 1 ∧ i < 8 ∧ p = hTx i n) ∧ (0 ≤ n ∧ n ≤ 8) ∧ last < a := by
  unfold pH at h
  split at h
  · rename_i hc
    rw [Bool.and_eq_true, Bool.and_eq_true, Bool.and_eq_true, decide_eq_true_iff] at hc
    obtain ⟨⟨⟨c1, c2⟩, c3⟩, c4⟩ := hc
    simp only [Option.some.injEq, Prod.mk.injEq] at h
    obtain ⟨rfl, rfl⟩ := h
    obtain ⟨h1, h2⟩ := pD_sound (show pD (cut p [62]).1 = ((pD (cut p [62]).1).1, true) from Prod.ext rfl c2)
    obtain ⟨h3, h4⟩ := pD_sound (show pD (cut p [62]).2.1 = ((pD (cut p [62]).2.1).1, true) from Prod.ext rfl c3)
    have hs := cut_found (show cut p [62] = ((cut p [62]).1, (cut p [62]).2.1, true) from Prod.ext rfl (Prod.ext rfl c1))
    refine ⟨⟨((pD (cut p [62]).1).1 - 1).toNat, by omega, by omega, ?_⟩, h3, c4⟩
    unfold hTx
    rw [show ((((pD (cut p [62]).1).1 - 1).toNat : Nat) : Int) + 1 = (pD (cut p [62]).1).1 from by omega, ← h2, ← h4]
    exact hs
  · cases h
theorem pHs_parts : ∀ (l done : List Int) (i : Nat) (last : Int), done.length = i → last ≤ i → i + l.length ≤ 8 → (∀ n ∈ l, -1 ≤ n ∧ n ≤ 8) → pHs (hParts i l) last (done ++ List.replicate l.length (-1)) = some (done ++ l)
  | [], done, i, last, _, _, _, _ => by simp [hParts, pHs]
  | n :: l, done, i, last, hd, hl, hi, hv => by
    rw [List.length_cons] at hi
    have hn := hv n (by simp)
    have hr := fun last hlast => pHs_parts l (done ++ [n]) (i + 1) last (by simp [hd]) hlast (by omega) (fun m hm => hv m (List.mem_cons_of_mem _ hm))
    unfold hParts
    split
    · rename_i h0
      unfold pHs
      rw [pH_tx (by omega) (by omega) hl]
      simp only
      have e : (done ++ List.replicate (n :: l).length (-1)).set ((i : Int) + 1 - 1).toNat n = done ++ [n] ++ List.replicate l.length (-1) := by
        rw [show ((i : Int) + 1 - 1).toNat = done.length from by omega, List.length_cons, List.replicate_succ, List.set_append_right _ _ (Nat.le_refl _), Nat.sub_self, List.set_cons_zero]
        simp
      rw [e, hr _ (by omega)]; simp
    · rename_i h0
      have e : done ++ List.replicate (n :: l).length (-1) = done ++ [n] ++ List.replicate l.length (-1) := by
        rw [show n = -1 from by omega, List.length_cons, List.replicate_succ]; simp
      rw [e, hr _ (by omega)]; simp
theorem hParts_skip : ∀ (m : Nat) (l : List Int) (i : Nat), (∀ j, j < m → l[j]? = some (-1)) → hParts i l = hParts (i + m) (l.drop m)
  | 0, l, i, _ => by simp
  | m + 1, [], i, h => by have := h 0 (by omega); simp at this
  | m + 1, n :: l, i, h => by
    have h0 := h 0 (by omega)
    simp at h0
    subst h0
    conv => lhs; unfold hParts
    rw [if_neg (by omega), hParts_skip m l (i + 1) (fun j hj => by have := h (j + 1) (by omega); simpa using this), List.drop_succ_cons, show i + 1 + m = i + (m + 1) from by omega]
theorem hParts_none : ∀ (l : List Int) (i : Nat), (∀ n ∈ l, n = -1) → hParts i l = []
  | [], _, _ => rfl
  | n :: l, i, h => by
    unfold hParts
    rw [if_neg (by have := h n (by simp); omega)]
    exact hParts_none l _ (fun m hm => h m (List.mem_cons_of_mem _ hm))
theorem pHs_sound : ∀ (ps : List Txt) (last : Nat) (h0 h : List Int), pHs ps (last : Int) h0 = some h → h0.length = 8 → last ≤ 8 → (∀ n ∈ h0, -1 ≤ n ∧ n ≤ 8) → (∀ j, last ≤ j → j < 8 → h0[j]? = some (-1)) →
    h.length = 8 ∧ (∀ n ∈ h, -1 ≤ n ∧ n ≤ 8) ∧ (∀ j, j < last → h[j]? = h0[j]?) ∧ ps = hParts last (h.drop last)
  | [], last, h0, h, e, h8, hl, hv, hn => by
    unfold pHs at e
    injection e with e; subst e
    refine ⟨h8, hv, fun _ _ => rfl, (hParts_none _ _ ?_).symm⟩
    intro n hx
    obtain ⟨j, hj⟩ := List.mem_iff_getElem?.1 hx
    rw [List.getElem?_drop] at hj
    have hlt : last + j < 8 := by rw [← h8]; exact (List.getElem?_eq_some_iff.1 hj).1
    rw [hn _ (by omega) hlt] at hj
    injection hj with hj; exact hj.symm
  | p :: ps, last, h0, h, e, h8, hl, hv, hn => by
    unfold pHs at e
    split at e
    · rename_i a n hp
      obtain ⟨⟨i, rfl, hi, rfl⟩, h1, h2⟩ := pH_sound hp (by omega)
      rw [show ((i : Int) + 1 - 1).toNat = i from by omega, show (i : Int) + 1 = ((i + 1 : Nat) : Int) from by omega] at e
      obtain ⟨k1, k2, k3, k4⟩ := pHs_sound ps (i + 1) (h0.set i n) h e (by simpa using h8) (by omega) (fun x hx => by
        rcases mem_set hx with rfl | hx
        · omega
        · exact hv x hx) (fun j hj1 hj2 => by rw [List.getElem?_set_ne (by omega)]; exact hn j (by omega) hj2)
      have hli : last ≤ i := by omega
      have hin : h[i]? = some n := by rw [k3 i (by omega), List.getElem?_set_self (by omega)]
      refine ⟨k1, k2, fun j hj => by rw [k3 j (by omega), List.getElem?_set_ne (by omega)], ?_⟩
      have hd : h.drop i = n :: h.drop (i + 1) := by
        rw [List.drop_eq_getElem_cons (by omega)]
        have := hin
        rw [List.getElem?_eq_getElem (by omega)] at this
        injection this with this; rw [this]
      rw [hParts_skip (i - last) (h.drop last) last (fun j hj => by
        rw [List.getElem?_drop, k3 _ (by omega), List.getElem?_set_ne (by omega)]; exact hn _ (by omega) (by omega))]
      rw [List.drop_drop, show last + (i - last) = i from by omega, hd]
      conv => rhs; unfold hParts
      rw [if_pos h1.1, k4]
    · cases e
theorem take_parts {s : St} (h : stv s = true) : (vParts 0 s.v ++ hParts 0 s.h).take 8 = vParts 0 s.v ∧ (vParts 0 s.v ++ hParts 0 s.h).drop 8 = hParts 0 s.h := by
  have hl : (vParts 0 s.v).length = 8 := by rw [vParts_len]; exact stv_v h
  rw [← hl]; exact ⟨List.take_left, List.drop_left⟩
theorem pS_txS {s : St} (h : stv s = true) : pS (txS s) = (s, true) := by
  unfold pS
  rw [split_txS h]
  unfold pS2
  have h1 := hParts_len s.h 0
  rw [stv_h h] at h1
  rw [if_neg (by rw [List.length_append, vParts_len, stv_v h]; omega), (take_parts h).1, (take_parts h).2, pVs_parts s.v 0 [] (stv_vals h)]
  have := pHs_parts s.h [] 0 0 rfl (by omega) (by rw [stv_h h]; omega) (stv_cells h)
  rw [stv_h h] at this
  simp only [List.nil_append] at this ⊢
  rw [show noH = List.replicate 8 (-1) from rfl, this]
theorem pS_sound {t : Txt} {s : St} (h : pS t = (s, true)) : stv s = true ∧ txS s = t := by
  unfold pS pS2 at h
  split at h
  · simp at h
  · rename_i hl
    cases hv : pVs ((split t [32]).take 8) 0 [] with
    | none => rw [hv] at h; simp at h
    | some v =>
      rw [hv] at h
      cases hh : pHs ((split t [32]).drop 8) 0 noH with
      | none => rw [hh] at h; simp at h
      | some g =>
        rw [hh] at h
        simp only [Prod.mk.injEq, and_true] at h
        subst h
        obtain ⟨m, k1, k2, k3⟩ := pVs_sound _ _ _ _ hv
        simp only [List.nil_append] at k1
        subst k1
        obtain ⟨j1, j2, _, j4⟩ := pHs_sound _ 0 noH g hh rfl (by omega) (by decide) (fun j _ hj => (show ∀ k : Fin 8, noH[k.val]? = some (-1) by decide) ⟨j, hj⟩)
        have hv8 : v.length = 8 := by
          have := congrArg List.length k2
          rw [vParts_len, List.length_take] at this; omega
        refine ⟨(stv_iff _).2 ⟨⟨hv8, j1⟩, fun n hn => (vlB_iff n).2 (k3 n hn), fun n hn => (clB_iff n).2 (j2 n hn)⟩, ?_⟩
        unfold txS
        rw [List.drop_zero] at j4
        show Go.Lib.join (vParts 0 v ++ hParts 0 g) [32] = t
        rw [← k2, ← j4, List.take_append_drop, join_split]
theorem pS_no {t : Txt} (h : (pS t).2 = false) : pS t = (emp, false) := by
  unfold pS pS2 at h ⊢
  split
  · rfl
  · rename_i hl
    rw [if_neg hl] at h
    cases hv : pVs ((split t [32]).take 8) 0 [] with
    | none => rfl
    | some v =>
      rw [hv] at h
      cases hh : pHs ((split t [32]).drop 8) 0 noH with
      | none => rfl
      | some g => rw [hh] at h; cases h
theorem pS_is {t : Txt} {s : St} (h : stv s = true) (e : txS s = t) : pS t = (s, true) := by rw [← e]; exact pS_txS h
theorem pS_not {t : Txt} (h : ∀ s, stv s = true → txS s ≠ t) : pS t = (emp, false) := by
  refine pS_no ?_
  rw [Bool.eq_false_iff]
  intro e
  obtain ⟨h1, h2⟩ := pS_sound (show pS t = ((pS t).1, true) from Prod.ext rfl e)
  exact h _ h1 h2
theorem txS_inj {a b : St} (ha : stv a = true) (hb : stv b = true) (h : txS a = txS b) : a = b := by
  have h1 := pS_txS ha
  rw [h, pS_txS hb] at h1
  exact (congrArg Prod.fst h1).symm

end Go.Proofs.YtifdefkkofngoaaDoor.Pl

/- As the reference reads texts: words, then a check against the text that what was read has. Plain lists of bytes. No conditions. -/
namespace Go.Proofs.YtifdefkkofngoaaDoor.Pl
open Go.Lib

/-! ### Words -/
def cutA (c : UInt8) : Txt → Txt → List Txt
  | [], cur => [cur]
  | b :: l, cur => if b = c then cur :: cutA c l [] else cutA c l (cur ++ [b])
def wordsOf (s : Txt) : List Txt := (cutA 32 s []).filter fun w => w != []
theorem cutA_lack {c : UInt8} : ∀ (l cur : Txt), c ∉ l → cutA c l cur = [cur ++ l]
  | [], cur, _ => by simp [cutA]
  | b :: l, cur, h => by
    unfold cutA
    rw [if_neg (by rintro rfl; exact h (by simp)), cutA_lack l _ (fun hh => h (List.mem_cons_of_mem _ hh))]
    simp
theorem cutA_sep {c : UInt8} : ∀ (l cur r : Txt), c ∉ l → cutA c (l ++ c :: r) cur = (cur ++ l) :: cutA c r []
  | [], cur, r, _ => by simp [cutA]
  | b :: l, cur, r, h => by
    rw [List.cons_append]
    conv => lhs; unfold cutA
    rw [if_neg (by rintro rfl; exact h (by simp)), cutA_sep l _ r (fun hh => h (List.mem_cons_of_mem _ hh))]
    simp
theorem cutA_join {c : UInt8} : ∀ (ps : List Txt), ps ≠ [] → (∀ p ∈ ps, c ∉ p) → cutA c (Go.Lib.join ps [c]) [] = ps
  | [], h, _ => absurd rfl h
  | [p], _, hp => by rw [join_one, cutA_lack p [] (hp p (by simp))]; simp
  | p :: q :: l, _, hp => by
    rw [join_two, List.append_assoc, List.singleton_append, cutA_sep p [] _ (hp p (by simp)), cutA_join (q :: l) (by simp) (fun x hx => hp x (List.mem_cons_of_mem _ hx))]
    simp
theorem words_join {ps : List Txt} (h0 : ps ≠ []) (h1 : ∀ p ∈ ps, (32 : UInt8) ∉ p) (h2 : ∀ p ∈ ps, p ≠ []) : wordsOf (Go.Lib.join ps [32]) = ps := by
  unfold wordsOf
  rw [cutA_join ps h0 h1, List.filter_eq_self]
  intro p hp
  simpa using h2 p hp

/-! ### States -/
def dgt (w : Txt) (i : Nat) : Int := match w[i]? with
  | some c => if 48 ≤ c ∧ c ≤ 56 then (c.toNat : Int) - 48 else -1
  | none => -1
def qSl : List Txt → Nat → St → Option St
  | [], _, s => some s
  | w :: ws, i, s => if dgt w 2 < 0 then none else if i < 8 then qSl ws (i + 1) ⟨s.v.set i (dgt w 2), s.h⟩
    else if dgt w 0 < 1 then none else qSl ws (i + 1) ⟨s.v, s.h.set (dgt w 0 - 1).toNat (dgt w 2)⟩
def blank : St := ⟨[0, 0, 0, 0, 0, 0, 0, 0], noH⟩
def qS (t : Txt) : St × Bool := if 100 < t.length then (emp, false) else match qSl (wordsOf t) 0 blank with
  | none => (emp, false)
  | some s => if fmtS s = t then (s, true) else (emp, false)
theorem dgt_rng (w : Txt) (i : Nat) : -1 ≤ dgt w i ∧ dgt w i ≤ 8 := by
  unfold dgt
  split
  · rename_i c _
    split
    · rename_i hc
      have h1 : 48 ≤ c.toNat := hc.1
      have h2 : c.toNat ≤ 56 := hc.2
      omega
    · omega
  · omega
theorem dgt_dg {n : Int} (h : 0 ≤ n ∧ n ≤ 8) (a b : Txt) (i : Nat) (hi : i = a.length) : dgt (a ++ dg n ++ b) i = n := by
  subst hi
  unfold dgt
  rw [List.append_assoc, List.getElem?_append_right (Nat.le_refl _), Nat.sub_self]
  obtain ⟨k, rfl⟩ := Int.eq_ofNat_of_zero_le h.1
  have hd : 48 ≤ UInt8.ofNat (48 + k) ∧ UInt8.ofNat (48 + k) ≤ 56 := (show ∀ k : Fin 9, 48 ≤ UInt8.ofNat (48 + k.val) ∧ UInt8.ofNat (48 + k.val) ≤ 56 by decide) ⟨k, by omega⟩
  have he : (UInt8.ofNat (48 + k)).toNat = 48 + k := (show ∀ k : Fin 9, (UInt8.ofNat (48 + k.val)).toNat = 48 + k.val by decide) ⟨k, by omega⟩
  simp only [dg, Int.toNat_natCast, List.singleton_append, List.getElem?_cons_zero]
  rw [if_pos hd, he]; omega
theorem dgt_v {i : Nat} {n : Int} (hi : i < 8) (hn : 0 ≤ n ∧ n ≤ 8) : dgt (vTx i n) 2 = n := by
  have := dgt_dg hn (pre i) [] 2 (pre_len hi).symm
  rw [List.append_nil] at this; exact this
theorem dgt_h {i : Nat} {n : Int} (hi : i < 8) (hn : 0 ≤ n ∧ n ≤ 8) : dgt (hTx i n) 2 = n ∧ dgt (hTx i n) 0 = (i : Int) + 1 := by
  have h1 := dgt_dg hn (dg ((i : Int) + 1) ++ [62]) [] 2 rfl
  have h2 := dgt_dg (show 0 ≤ (i : Int) + 1 ∧ (i : Int) + 1 ≤ 8 by omega) [] ([62] ++ dg n) 0 rfl
  rw [List.append_nil] at h1
  rw [List.nil_append, ← List.append_assoc] at h2
  exact ⟨h1, h2⟩
theorem qSl_v : ∀ (l done : List Int) (i : Nat) (h : List Int) (ws : List Txt), done.length = i → i + l.length = 8 → (∀ n ∈ l, 0 ≤ n ∧ n ≤ 8) →
    qSl (vParts i l ++ ws) i ⟨done ++ List.replicate l.length 0, h⟩ = qSl ws 8 ⟨done ++ l, h⟩
  | [], done, i, h, ws, hd, hi, _ => by simp at hi; subst hi; simp [vParts]
  | n :: l, done, i, h, ws, hd, hi, hv => by
    rw [List.length_cons] at hi
    have hn := hv n (by simp)
    unfold vParts
    rw [List.cons_append]
    conv => lhs; unfold qSl
    rw [dgt_v (by omega) hn, if_neg (by omega), if_pos (by omega)]
    have e : (done ++ List.replicate (n :: l).length 0).set i n = done ++ [n] ++ List.replicate l.length 0 := by
      rw [← hd, List.length_cons, List.replicate_succ, List.set_append_right _ _ (Nat.le_refl _), Nat.sub_self, List.set_cons_zero]; simp
    simp only
    rw [e, qSl_v l (done ++ [n]) (i + 1) h ws (by simp [hd]) (by omega) (fun m hm => hv m (List.mem_cons_of_mem _ hm))]
    simp
theorem qSl_h : ∀ (l done : List Int) (i k : Nat) (v : List Int), done.length = i → i + l.length = 8 → 8 ≤ k → (∀ n ∈ l, -1 ≤ n ∧ n ≤ 8) →
    qSl (hParts i l) k ⟨v, done ++ List.replicate l.length (-1)⟩ = some ⟨v, done ++ l⟩
  | [], done, i, k, v, _, _, _, _ => by simp [hParts, qSl]
  | n :: l, done, i, k, v, hd, hi, hk, hv => by
    rw [List.length_cons] at hi
    have hn := hv n (by simp)
    have hr := fun k hk => qSl_h l (done ++ [n]) (i + 1) k v (by simp [hd]) (by omega) hk (fun m hm => hv m (List.mem_cons_of_mem _ hm))
    unfold hParts
    split
    · rename_i h0
      unfold qSl
      obtain ⟨d1, d2⟩ := dgt_h (i := i) (n := n) (by omega) (by omega)
      rw [d1, d2, if_neg (by omega), if_neg (by omega), if_neg (by omega)]
      have e : (done ++ List.replicate (n :: l).length (-1)).set ((i : Int) + 1 - 1).toNat n = done ++ [n] ++ List.replicate l.length (-1) := by
        rw [show ((i : Int) + 1 - 1).toNat = done.length from by omega, List.length_cons, List.replicate_succ, List.set_append_right _ _ (Nat.le_refl _), Nat.sub_self, List.set_cons_zero]; simp
      simp only
      rw [e, hr _ (by omega)]; simp
    · rename_i h0
      have e : done ++ List.replicate (n :: l).length (-1) = done ++ [n] ++ List.replicate l.length (-1) := by
        rw [show n = -1 from by omega, List.length_cons, List.replicate_succ]; simp
      rw [e, hr _ hk]; simp
theorem words_txS {s : St} (h : stv s = true) : wordsOf (txS s) = vParts 0 s.v ++ hParts 0 s.h :=
  words_join (parts_ne h) (parts_all h (fun i n hi hn => vTx_no hi hn) (fun i n hi hn => hTx_no hi hn)) (parts_all h (fun i n hi hn => by unfold vTx dg; simp) (fun i n hi hn => by unfold hTx; simp))
theorem qSl_txS {s : St} (h : stv s = true) : qSl (wordsOf (txS s)) 0 blank = some s := by
  rw [words_txS h]
  have h1 := qSl_v s.v [] 0 noH (hParts 0 s.h) rfl (by rw [stv_v h]) (stv_vals h)
  have h2 := qSl_h s.h [] 0 8 s.v rfl (by rw [stv_h h]) (Nat.le_refl _) (stv_cells h)
  rw [stv_v h] at h1
  rw [stv_h h] at h2
  simp only [List.nil_append] at h1 h2
  rw [show blank = ⟨List.replicate 8 0, noH⟩ from rfl, h1]
  exact h2
theorem txS_ne {s : St} (h : stv s = true) : txS s ≠ [] := by
  intro e
  have h1 := split_txS h
  rw [e] at h1
  have h2 := congrArg List.length h1
  rw [List.length_append, vParts_len, stv_v h, show split [] [32] = [[]] from by decide] at h2
  simp at h2; omega
theorem qS_pS (t : Txt) : qS t = pS t := by
  by_cases h : ∃ s, stv s = true ∧ txS s = t
  · obtain ⟨s, hs, rfl⟩ := h
    rw [pS_txS hs]
    have hl := txS_len hs
    unfold qS
    rw [if_neg (by omega), qSl_txS hs]
    simp only
    rw [if_pos (by unfold fmtS; rw [if_pos hs])]
  · rw [pS_not (fun s h1 h2 => h ⟨s, h1, h2⟩)]
    unfold qS
    split
    · rfl
    · cases hq : qSl (wordsOf t) 0 blank with
      | none => rfl
      | some s =>
        simp only
        rw [if_neg]
        intro e
        unfold fmtS at e
        split at e
        · rename_i hs; exact h ⟨s, hs, e⟩
        · subst e
          rw [show wordsOf [] = [] from by decide] at hq
          unfold qSl at hq
          injection hq with hq
          subst hq
          rename_i hs
          exact hs (by decide)

/-! ### Assertions -/
/-- The first of two bytes in a text. -/
def first2 (s : Txt) : Option Nat := (List.range s.length).find? fun i => s[i]? == some 62 || s[i]? == some 126
/-- As the reference reads an atom: what matters of it. -/
structure IsX (s : Txt) (r : Atm × Bool) : Prop where
  yes : ∀ x, av x = true → txX x = s → r = (x, true)
  no : r.2 = true → av r.1 = true ∧ txX r.1 = s
theorem IsX.eq {s : Txt} {r : Atm × Bool} (h : IsX s r) : r.2 = (pX s).2 ∧ (r.2 = true → r = pX s) := by
  cases hr : r.2 with
  | true =>
    obtain ⟨h1, h2⟩ := h.no hr
    have h3 : pX s = (r.1, true) := by rw [← h2]; exact pX_txX h1
    exact ⟨by rw [h3], fun _ => by rw [h3, ← hr]⟩
  | false =>
    refine ⟨?_, fun e => by cases e⟩
    cases hp : (pX s).2 with
    | false => rfl
    | true =>
      obtain ⟨h1, h2⟩ := pX_sound (show pX s = ((pX s).1, true) from Prod.ext rfl hp)
      rw [h.yes _ h1 h2] at hr; cases hr
def isBar : List Txt → Bool
  | w :: _ => w == [124]
  | [] => false
/-- The words of a text at even places, in two modes. -/
def scan : List Txt → Bool → Asr → Option Asr
  | [], _, a => some a
  | w :: ws, second, a =>
    if !second && (pF w).2 then scan (ws.drop 1) (second || isBar ws) ⟨a.f ++ [(pF w).1], a.a⟩
    else if second && (pX w).2 then scan (ws.drop 1) (second || isBar ws) ⟨a.f, a.a ++ [(pX w).1]⟩
    else if w ≠ tTrue ∧ w ≠ tEmp then none
    else scan (ws.drop 1) (second || isBar ws) a
termination_by ws => ws.length
decreasing_by all_goals (simp only [List.length_cons, List.length_drop]; omega)
def qA (t : Txt) : Asr × Bool := if 300 < t.length then (noA, false) else match scan (wordsOf t) false noA with
  | none => (noA, false)
  | some a => if fmtA a = t ∧ t ≠ [] then (a, true) else (noA, false)
/-- The words of the facts of a text, and of its atoms. -/
def gap (g : Txt) : List Txt → List Txt
  | [] => []
  | [p] => [p]
  | p :: q :: l => p :: g :: gap g (q :: l)
theorem join_gap (g : Txt) : ∀ (ps : List Txt), Go.Lib.join ps ([32] ++ g ++ [32]) = Go.Lib.join (gap g ps) [32]
  | [] => rfl
  | [p] => by rw [join_one]; unfold gap; rw [join_one]
  | p :: q :: l => by
    have ih := join_gap g (q :: l)
    rw [join_two]
    conv => rhs; unfold gap
    rw [ih]
    cases hg : gap g (q :: l) with
    | nil => cases l <;> simp [gap] at hg
    | cons y ys => rw [join_two, join_two]; simp [List.append_assoc]
theorem join_app : ∀ (ps qs : List Txt) (sep : Txt), ps ≠ [] → qs ≠ [] → Go.Lib.join (ps ++ qs) sep = Go.Lib.join ps sep ++ sep ++ Go.Lib.join qs sep
  | [], _, _, h, _ => absurd rfl h
  | [p], qs, sep, _, hq => by
    cases qs with
    | nil => exact absurd rfl hq
    | cons q l => rw [List.singleton_append, join_two, join_one]
  | p :: r :: l, qs, sep, _, hq => by
    rw [List.cons_append, List.cons_append, join_two, ← List.cons_append, join_app (r :: l) qs sep (by simp) hq, join_two]
    simp [List.append_assoc]
theorem gap_ne {g : Txt} {ps : List Txt} (h : ps ≠ []) : gap g ps ≠ [] := by
  cases ps with
  | nil => exact absurd rfl h
  | cons p l => cases l <;> simp [gap]
theorem mem_gap {g p : Txt} : ∀ {ps : List Txt}, p ∈ gap g ps → p = g ∨ p ∈ ps
  | [], h => by cases h
  | [q], h => by simp [gap] at h; exact .inr (by simp [h])
  | q :: r :: l, h => by
    unfold gap at h
    rcases List.mem_cons.1 h with rfl | h
    · exact .inr (by simp)
    · rcases List.mem_cons.1 h with rfl | h
      · exact .inl rfl
      · rcases mem_gap h with h | h
        · exact .inl h
        · exact .inr (List.mem_cons_of_mem _ h)
def fW (l : List Fct) : List Txt := if l = [] then [tTrue] else gap [38] (l.map txF)
def xW (l : List Atm) : List Txt := if l = [] then [tEmp] else gap [42] (l.map txX)
theorem fW_ne (l : List Fct) : fW l ≠ [] := by
  unfold fW; split
  · simp
  · rename_i h; exact gap_ne (by simpa using h)
theorem xW_ne (l : List Atm) : xW l ≠ [] := by
  unfold xW; split
  · simp
  · rename_i h; exact gap_ne (by simpa using h)
theorem fTx_W (l : List Fct) : fTx l = Go.Lib.join (fW l) [32] := by
  unfold fTx fW
  split
  · rw [join_one]
  · exact join_gap [38] _
theorem aTx_W (l : List Atm) : aTx l = Go.Lib.join (xW l) [32] := by
  unfold aTx xW
  split
  · rw [join_one]
  · exact join_gap [42] _
theorem txA_W (a : Asr) : txA a = Go.Lib.join (fW a.f ++ [124] :: xW a.a) [32] := by
  unfold txA
  rw [join_app _ _ _ (fW_ne _) (by simp), fTx_W, aTx_W]
  cases h : xW a.a with
  | nil => exact absurd h (xW_ne _)
  | cons y ys => rw [join_two]; simp [sepB, List.append_assoc]
theorem words_txA (a : Asr) : wordsOf (txA a) = fW a.f ++ [124] :: xW a.a := by
  rw [txA_W]
  have key : ∀ p ∈ fW a.f ++ [124] :: xW a.a, (32 : UInt8) ∉ p ∧ p ≠ [] := by
    intro p hp
    rcases List.mem_append.1 hp with hp | hp
    · unfold fW at hp
      split at hp
      · rw [List.mem_singleton.1 hp]; decide
      · rcases mem_gap hp with rfl | hp
        · decide
        · obtain ⟨f, _, rfl⟩ := List.mem_map.1 hp
          refine ⟨fun h => ?_, txF_ne f⟩
          rcases txF_mem h with h | h | h
          · exact (lows h).2.2 rfl
          · revert h; decide
          · revert h; decide
    · rcases List.mem_cons.1 hp with rfl | hp
      · decide
      · unfold xW at hp
        split at hp
        · rw [List.mem_singleton.1 hp]; decide
        · rcases mem_gap hp with rfl | hp
          · decide
          · obtain ⟨f, _, rfl⟩ := List.mem_map.1 hp
            refine ⟨fun h => ?_, txX_ne f⟩
            rcases txX_mem h with h | h
            · exact (lows h).2.2 rfl
            · revert h; decide
  exact words_join (by simp [fW_ne]) (fun p hp => (key p hp).1) (fun p hp => (key p hp).2)
theorem scan_facts : ∀ (l : List Fct) (a : Asr) (ws : List Txt), l ≠ [] → (∀ f ∈ l, fv f = true) → scan (gap [38] (l.map txF) ++ [124] :: ws) false a = scan ws true ⟨a.f ++ l, a.a⟩
  | [], _, _, h, _ => absurd rfl h
  | [f], a, ws, _, hv => by
    simp only [List.map_cons, List.map_nil, gap, List.singleton_append]
    rw [scan, pF_txF (hv f (by simp))]
    simp [show isBar ([124] :: ws) = true from rfl]
  | f :: g :: l, a, ws, _, hv => by
    have ih := scan_facts (g :: l) ⟨a.f ++ [f], a.a⟩ ws (by simp) (fun x hx => hv x (List.mem_cons_of_mem _ hx))
    simp only [List.map_cons, gap, List.cons_append] at ih ⊢
    rw [scan, pF_txF (hv f (by simp))]
    simp only [Bool.not_false, Bool.true_and, if_true, List.drop_succ_cons, List.drop_zero, Bool.false_or]
    rw [show isBar ([38] :: (gap [38] (txF g :: List.map txF l) ++ [124] :: ws)) = false from rfl, ih]
    simp
theorem scan_atoms : ∀ (l : List Atm) (a : Asr), l ≠ [] → (∀ f ∈ l, av f = true) → scan (gap [42] (l.map txX)) true a = some ⟨a.f, a.a ++ l⟩
  | [], _, h, _ => absurd rfl h
  | [f], a, _, hv => by
    simp only [List.map_cons, List.map_nil, gap]
    rw [scan, pX_txX (hv f (by simp))]
    simp [scan]
  | f :: g :: l, a, _, hv => by
    have ih := scan_atoms (g :: l) ⟨a.f, a.a ++ [f]⟩ (by simp) (fun x hx => hv x (List.mem_cons_of_mem _ hx))
    simp only [List.map_cons, gap] at ih ⊢
    rw [scan, pX_txX (hv f (by simp))]
    simp only [Bool.not_true, Bool.false_and, Bool.true_and, if_true, List.drop_succ_cons, List.drop_zero, Bool.true_or, Bool.false_eq_true, if_false]
    rw [ih]; simp
theorem scan_txA {a : Asr} (h : asv a = true) : scan (wordsOf (txA a)) false noA = some a := by
  obtain ⟨f, x⟩ := a
  obtain ⟨h1, _, h3⟩ := (asv_iff _).1 h
  obtain ⟨_, h5⟩ := (fsv_iff _).1 h1
  rw [words_txA]
  have s2 : scan (xW x) true ⟨f, []⟩ = some ⟨f, x⟩ := by
    unfold xW
    split
    · rename_i e; subst e
      rw [scan]
      simp [show (pX tEmp).2 = false from by decide, scan]
    · rename_i e
      have := scan_atoms x ⟨f, []⟩ e h3
      simpa using this
  show scan (fW f ++ [124] :: xW x) false noA = _
  unfold fW
  split
  · rename_i e; subst e
    rw [List.singleton_append, scan]
    simp only [show (pF tTrue).2 = false from by decide, show isBar ([124] :: xW x) = true from rfl]
    simpa using s2
  · rename_i e
    rw [scan_facts f noA (xW x) e h5]
    simpa using s2
theorem qA_pA (t : Txt) : qA t = pA t := by
  by_cases h : ∃ a, asv a = true ∧ txA a = t
  · obtain ⟨a, ha, rfl⟩ := h
    rw [pA_txA ha]
    have hl := txA_len ha
    unfold qA
    rw [if_neg (by omega), scan_txA ha]
    simp only
    rw [if_pos ⟨by unfold fmtA; rw [if_pos ha], txA_ne a⟩]
  · rw [pA_not (fun a h1 h2 => h ⟨a, h1, h2⟩)]
    unfold qA
    split
    · rfl
    · cases hq : scan (wordsOf t) false noA with
      | none => rfl
      | some a =>
        simp only
        rw [if_neg]
        rintro ⟨e, h0⟩
        unfold fmtA at e
        split at e
        · rename_i ha; exact h ⟨a, ha, e⟩
        · exact h0 e.symm

end Go.Proofs.YtifdefkkofngoaaDoor.Pl

/- An atom read at the first of its two signs. Plain lists of bytes. No conditions. -/
namespace Go.Proofs.YtifdefkkofngoaaDoor.Pl
open Go.Lib

theorem nm_nosep {t : Int} {c : UInt8} (hc : c = 62 ∨ c = 126) (h : c ∈ nm t) : False := by
  unfold nm at h
  split at h
  · rename_i ht
    have hb := (tmB_iff t).1 ht
    have k := (show ∀ a : Fin 9, (62 : UInt8) ∉ nmN a.val ∧ (126 : UInt8) ∉ nmN a.val by decide) ⟨t.toNat, by omega⟩
    rcases hc with rfl | rfl
    · exact k.1 h
    · exact k.2 h
  · cases h
theorem sx_one (k : Int) : ∃ c, sx k = [c] ∧ (c = 62 ∨ c = 126) ∧ (c = 126 ↔ k = 2) := by
  unfold sx
  split
  · rename_i h; exact ⟨126, rfl, .inr rfl, by simp [h]⟩
  · rename_i h; exact ⟨62, rfl, .inl rfl, by simp [h]⟩
theorem isx_at {s : Txt} {k : Nat} {kd : Int} (hk : k < s.length) (hc : s[k] = 62 ∨ s[k] = 126) (hb : ∀ j, j < k → s[j]? ≠ some 62 ∧ s[j]? ≠ some 126) (h1 : s[k] = 62 → kd = 1) (h2 : s[k] = 126 → kd = 2) :
    IsX s (⟨kd, (pT (s.take k)).1, (pT (s.drop (k + 1))).1⟩, (pT (s.take k)).2 && (pT (s.drop (k + 1))).2) := by
  constructor
  · intro x hx e
    obtain ⟨xk, a, b⟩ := x
    obtain ⟨hxk, ha, hb'⟩ := (av_iff _).1 hx
    obtain ⟨c, hs, hc', hck⟩ := sx_one xk
    have es : s = nm a ++ c :: nm b := by rw [← e]; unfold txX; rw [hs]; simp
    have hn : s[(nm a).length]? = some c := by rw [es, List.getElem?_append_right (Nat.le_refl _), Nat.sub_self]; rfl
    have hkn : k = (nm a).length := by
      rcases Nat.lt_trichotomy k (nm a).length with h | h | h
      · exfalso
        have hg : s[k]? = (nm a)[k]? := by rw [es, List.getElem?_append_left h]
        rw [List.getElem?_eq_getElem hk, List.getElem?_eq_getElem h] at hg
        injection hg with hg
        exact nm_nosep (t := a) (c := s[k]) hc (by rw [hg]; exact List.getElem_mem h)
      · exact h
      · exfalso
        have := hb _ h
        rw [hn] at this
        rcases hc' with rfl | rfl
        · exact this.1 rfl
        · exact this.2 rfl
    have hsk : s[k] = c := by
      have h3 : s[k]? = some c := by rw [hkn]; exact hn
      rw [List.getElem?_eq_getElem hk] at h3; injection h3
    have ht : s.take k = nm a := by rw [es, hkn, List.take_left]
    have hd : s.drop (k + 1) = nm b := by
      rw [es, hkn, show (nm a).length + 1 = (nm a ++ [c]).length by simp, show nm a ++ c :: nm b = (nm a ++ [c]) ++ nm b by simp, List.drop_left]
    rw [ht, hd, pT_nm ha, pT_nm hb']
    have hkd : kd = xk := by
      rcases hc' with rfl | rfl
      · have h4 := h1 hsk
        rcases hxk with h | h
        · rw [h4]; exact h.symm
        · exact absurd (hck.2 h) (by decide)
      · rw [h2 hsk]; exact (hck.1 rfl).symm
    rw [hkd]; rfl
  · intro h
    rw [Bool.and_eq_true] at h
    obtain ⟨p1, p2⟩ := pT_sound (show pT (s.take k) = ((pT (s.take k)).1, true) from Prod.ext rfl h.1)
    obtain ⟨p3, p4⟩ := pT_sound (show pT (s.drop (k + 1)) = ((pT (s.drop (k + 1))).1, true) from Prod.ext rfl h.2)
    refine ⟨(av_iff _).2 ⟨?_, p1, p3⟩, ?_⟩
    · rcases hc with h | h
      · exact .inl (h1 h)
      · exact .inr (h2 h)
    · show nm _ ++ sx kd ++ nm _ = s
      rw [p2, p4]
      have hx : sx kd = [s[k]] := by
        rcases hc with h | h
        · rw [h1 h, h]; rfl
        · rw [h2 h, h]; rfl
      rw [hx]
      conv => rhs; rw [← List.take_append_drop k s, List.drop_eq_getElem_cons hk]
      simp
theorem isx_none {s : Txt} (h : ∀ x, av x = true → txX x ≠ s) : IsX s (noX, false) := ⟨fun x hx e => absurd e (h x hx), fun h => by cases h⟩
theorem isx_lack {s : Txt} (h : ∀ j, j < s.length → s[j]? ≠ some 62 ∧ s[j]? ≠ some 126) : IsX s (noX, false) := isx_none fun x hx e => by
  obtain ⟨c, hs, hc', _⟩ := sx_one x.k
  have es : s = nm x.a ++ c :: nm x.b := by rw [← e]; unfold txX; rw [hs]; simp
  have hn : s[(nm x.a).length]? = some c := by rw [es, List.getElem?_append_right (Nat.le_refl _), Nat.sub_self]; rfl
  have := h (nm x.a).length (by rw [es]; simp)
  rw [hn] at this
  rcases hc' with rfl | rfl
  · exact this.1 rfl
  · exact this.2 rfl
theorem isx_long {s : Txt} (h : 7 < s.length) : IsX s (noX, false) := isx_none fun x hx e => by
  have := txX_len x
  rw [e] at this; omega

end Go.Proofs.YtifdefkkofngoaaDoor.Pl

/- What a text that was formatted reads back as; equality of texts. Plain lists. No conditions. -/
namespace Go.Proofs.YtifdefkkofngoaaDoor.Pl
open Go.Lib

theorem fmtA_yes {a : Asr} (h : asv a = true) : fmtA a = txA a := by unfold fmtA; rw [if_pos h]
theorem fmtA_no {a : Asr} (h : asv a = false) : fmtA a = [] := by unfold fmtA; rw [h]; rfl
theorem fmtA_len (a : Asr) : (fmtA a).length ≤ 250 := by
  unfold fmtA; split
  · rename_i h; exact txA_len h
  · simp
theorem fmt_parseA (a : Asr) : (pA (fmtA a)).2 = asv a ∧ (asv a = true → (pA (fmtA a)).1 = a) := by
  cases h : asv a with
  | true => rw [fmtA_yes h, pA_txA h]; exact ⟨rfl, fun _ => rfl⟩
  | false => rw [fmtA_no h]; exact ⟨by decide, fun h => by cases h⟩
theorem parse_fmtA {s : Txt} {a : Asr} (h : pA s = (a, true)) : fmtA a = s := by
  obtain ⟨h1, h2⟩ := pA_sound h
  rw [fmtA_yes h1, h2]
theorem fmtS_yes {s : St} (h : stv s = true) : fmtS s = txS s := by unfold fmtS; rw [if_pos h]
theorem fmtS_no {s : St} (h : stv s = false) : fmtS s = [] := by unfold fmtS; rw [h]; rfl
theorem fmtS_len (s : St) : (fmtS s).length ≤ 70 := by
  unfold fmtS; split
  · rename_i h; exact txS_len h
  · simp
theorem fmt_parseS (s : St) : (pS (fmtS s)).2 = stv s ∧ (stv s = true → (pS (fmtS s)).1 = s) := by
  cases h : stv s with
  | true => rw [fmtS_yes h, pS_txS h]; exact ⟨rfl, fun _ => rfl⟩
  | false => rw [fmtS_no h]; exact ⟨by decide, fun h => by cases h⟩
theorem parse_fmtS {t : Txt} {s : St} (h : pS t = (s, true)) : fmtS s = t := by
  obtain ⟨h1, h2⟩ := pS_sound h
  rw [fmtS_yes h1, h2]
theorem fmt_sameS (s t : St) : fmtS s = [] ∨ fmtS t = [] ∨ (decide (s = t) = decide (fmtS s = fmtS t)) := by
  cases hs : stv s with
  | false => exact .inl (fmtS_no hs)
  | true =>
    cases ht : stv t with
    | false => exact .inr (.inl (fmtS_no ht))
    | true =>
      refine .inr (.inr ?_)
      rw [fmtS_yes hs, fmtS_yes ht]
      by_cases h : s = t
      · subst h; simp
      · rw [decide_eq_false h, decide_eq_false (fun e => h (txS_inj hs ht e))]
theorem pA_asv {s : Txt} {a : Asr} (h : pA s = (a, true)) : a.f.length ≤ 12 ∧ a.a.length ≤ 6 := asv_len (pA_sound h).1
theorem pA_lens (s : Txt) : (pA s).1.f.length ≤ 12 ∧ (pA s).1.a.length ≤ 6 := by
  cases h : (pA s).2 with
  | true => exact pA_asv (show pA s = ((pA s).1, true) from Prod.ext rfl h)
  | false => rw [pA_no h]; exact ⟨Nat.zero_le _, Nat.zero_le _⟩
theorem pS_lens (t : Txt) : (pS t).1.v.length ≤ 8 ∧ (pS t).1.h.length ≤ 8 := by
  cases h : (pS t).2 with
  | true =>
    have k := (pS_sound (show pS t = ((pS t).1, true) from Prod.ext rfl h)).1
    exact ⟨by rw [stv_v k]; omega, by rw [stv_h k]; omega⟩
  | false => rw [pS_no h]; exact ⟨Nat.zero_le _, Nat.zero_le _⟩

end Go.Proofs.YtifdefkkofngoaaDoor.Pl

/- The text of a state built part by part, with a space behind each; digits in the library's words. Plain lists. No conditions. -/
namespace Go.Proofs.YtifdefkkofngoaaDoor.Pl
open Go.Lib

def spc (ps : List Txt) : Txt := (ps.map (· ++ [32])).flatten
theorem spc_snoc (ps : List Txt) (x : Txt) : spc (ps ++ [x]) = spc ps ++ x ++ [32] := by unfold spc; simp [List.append_assoc]
theorem vP_step {v : List Int} {k : Nat} (hk : k < v.length) : vParts 0 (v.take (k + 1)) = vParts 0 (v.take k) ++ [vTx k v[k]] := by
  rw [List.take_succ_eq_append_getElem hk, vParts_snoc, List.length_take, Nat.zero_add, Nat.min_eq_left (by omega)]
theorem hP_yes {h : List Int} {k : Nat} (hk : k < h.length) (h0 : 0 ≤ h[k]) : hParts 0 (h.take (k + 1)) = hParts 0 (h.take k) ++ [hTx k h[k]] := by
  rw [List.take_succ_eq_append_getElem hk, hParts_snoc, List.length_take, Nat.zero_add, Nat.min_eq_left (by omega), if_pos h0]
theorem hP_no {h : List Int} {k : Nat} (hk : k < h.length) (h0 : ¬ 0 ≤ h[k]) : hParts 0 (h.take (k + 1)) = hParts 0 (h.take k) := by
  rw [List.take_succ_eq_append_getElem hk, hParts_snoc, if_neg h0, List.append_nil]
theorem spc_v {v : List Int} {k : Nat} (hk : k < v.length) : spc (vParts 0 (v.take (k + 1))) = spc (vParts 0 (v.take k)) ++ nmN (k + 1) ++ [61] ++ dg v[k] ++ [32] := by
  rw [vP_step hk, spc_snoc]; unfold vTx pre; simp [List.append_assoc]
theorem spc_h {ps : List Txt} {h : List Int} {k : Nat} (hk : k < h.length) (h0 : 0 ≤ h[k]) : spc (ps ++ hParts 0 (h.take (k + 1))) = spc (ps ++ hParts 0 (h.take k)) ++ dg ((k : Int) + 1) ++ [62] ++ dg h[k] ++ [32] := by
  rw [hP_yes hk h0, ← List.append_assoc, spc_snoc]; unfold hTx; simp [List.append_assoc]
theorem spc_txS {s : St} (h : stv s = true) : spc (vParts 0 s.v ++ hParts 0 s.h) = txS s ++ [32] := by
  have := join_spaced (vParts 0 s.v ++ hParts 0 s.h) (parts_ne h)
  unfold spc txS; exact this
theorem decD {i : Nat} (h : i < 9) : Go.Lib.decDigits i = dg (i : Int) := (show ∀ i : Fin 9, Go.Lib.decDigits i.val = dg (i.val : Int) by decide +kernel) ⟨i, h⟩
theorem vTx_len {i : Nat} {n : Int} (hi : i < 8) : (vTx i n).length = 3 := by unfold vTx; rw [List.length_append, pre_len hi, dg_len]
theorem hTx_len (i : Nat) (n : Int) : (hTx i n).length = 3 := by unfold hTx; rw [List.length_append, List.length_append, dg_len, dg_len]; rfl
theorem parts_le {s : St} (h : stv s = true) : (vParts 0 s.v ++ hParts 0 s.h).length ≤ 16 := by
  have := hParts_len s.h 0
  rw [List.length_append, vParts_len, stv_v h]; rw [stv_h h] at this; omega

end Go.Proofs.YtifdefkkofngoaaDoor.Pl
