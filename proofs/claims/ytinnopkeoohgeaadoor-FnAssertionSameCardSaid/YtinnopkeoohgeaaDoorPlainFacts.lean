/- The plain mathematics of facts: classes of terms by relabelling, consistency and implication, with no program in sight. No conditions. -/
namespace Go.Proofs.YtinnopkeoohgeaaDoor.Pl

/-- A fact: 'equal' or 'different', and two numbers. -/
structure Fct where
  e : Bool
  a : Int
  b : Int
deriving DecidableEq

def Tm (t : Int) : Prop := 0 ≤ t ∧ t ≤ 8
instance (t : Int) : Decidable (Tm t) := by unfold Tm; infer_instance
def tmB (t : Int) : Bool := decide (Tm t)
def fv (f : Fct) : Bool := tmB f.a && tmB f.b
def fsv (l : List Fct) : Bool := decide (l.length ≤ 12) && l.all fv

theorem tmB_iff (t : Int) : tmB t = true ↔ 0 ≤ t ∧ t ≤ 8 := by unfold tmB Tm; exact decide_eq_true_iff
theorem fv_iff (f : Fct) : fv f = true ↔ (0 ≤ f.a ∧ f.a ≤ 8) ∧ (0 ≤ f.b ∧ f.b ≤ 8) := by
  unfold fv; rw [Bool.and_eq_true, tmB_iff, tmB_iff]
theorem fsv_iff (l : List Fct) : fsv l = true ↔ l.length ≤ 12 ∧ ∀ f ∈ l, fv f = true := by
  unfold fsv; rw [Bool.and_eq_true, decide_eq_true_iff, List.all_eq_true]

/-- One fact's step on the classes: the greater class becomes the lesser one. -/
def stp (c : Nat → Nat) (f : Fct) : Nat → Nat :=
  if f.e then fun t => if c t = max (c f.a.toNat) (c f.b.toNat) then min (c f.a.toNat) (c f.b.toNat) else c t else c
def cls (l : List Fct) : Nat → Nat := l.foldl stp id
/-- No two terms that are different by m are equal by c. -/
def sep (c : Nat → Nat) (m : List Fct) : Bool := m.all fun f => f.e || !decide (c f.a.toNat = c f.b.toNat)
def neg (f : Fct) : Fct := ⟨!f.e, f.a, f.b⟩
def fcon (l : List Fct) : Bool := fsv l && sep (cls l) l
def fimp (l : List Fct) (f : Fct) : Bool := fsv l && fv f && !sep (cls (l ++ [neg f])) (l ++ [neg f])

theorem cls_nil (t : Nat) : cls [] t = t := rfl
theorem cls_snoc (l : List Fct) (f : Fct) : cls (l ++ [f]) = stp (cls l) f := by unfold cls; rw [List.foldl_append]; rfl

/-- The step looks at the class alone. -/
theorem stp_congr (c : Nat → Nat) (f : Fct) {x y : Nat} (h : c x = c y) : stp c f x = stp c f y := by
  unfold stp; split
  · simp only [h]
  · exact h

structure Good (c : Nat → Nat) : Prop where
  le : ∀ t, c t ≤ t
  idem : ∀ t, c (c t) = c t

theorem good_id : Good id := ⟨fun _ => Nat.le_refl _, fun _ => rfl⟩
theorem good_stp {c : Nat → Nat} (h : Good c) (f : Fct) : Good (stp c f) := by
  unfold stp
  by_cases he : f.e = true
  · rw [if_pos he]
    generalize hA : f.a.toNat = A
    generalize hB : f.b.toNat = B
    constructor
    · intro t
      have h1 := h.le t
      show (if c t = max (c A) (c B) then min (c A) (c B) else c t) ≤ t
      split <;> omega
    · intro t
      have h1 := h.idem t
      have h2 := h.idem A
      have h3 := h.idem B
      show (if c (if c t = max (c A) (c B) then min (c A) (c B) else c t) = max (c A) (c B) then min (c A) (c B) else c (if c t = max (c A) (c B) then min (c A) (c B) else c t)) = (if c t = max (c A) (c B) then min (c A) (c B) else c t)
      by_cases h4 : c t = max (c A) (c B)
      · rw [if_pos h4]
        have h5 : c (min (c A) (c B)) = min (c A) (c B) := by
          rcases Nat.le_total (c A) (c B) with h6 | h6
          · rw [Nat.min_eq_left h6, h2]
          · rw [Nat.min_eq_right h6, h3]
        rw [h5]
        split <;> rfl
      · rw [if_neg h4, h1, if_neg h4]
  · rw [if_neg he]; exact h
theorem good_fold (l : List Fct) : ∀ c, Good c → Good (l.foldl stp c) := by
  induction l with
  | nil => intro c h; exact h
  | cons f l ih => intro c h; exact ih _ (good_stp h f)
theorem good_cls (l : List Fct) : Good (cls l) := good_fold l id good_id
theorem cls_le (l : List Fct) (t : Nat) : cls l t ≤ t := (good_cls l).le t
theorem cls_idem (l : List Fct) (t : Nat) : cls l (cls l t) = cls l t := (good_cls l).idem t
theorem cls_zero (l : List Fct) : cls l 0 = 0 := Nat.le_zero.1 (cls_le l 0)

/-- What holds of the classes stays: equal terms stay equal. -/
theorem fold_congr (l : List Fct) : ∀ (c : Nat → Nat) {x y : Nat}, c x = c y → l.foldl stp c x = l.foldl stp c y := by
  induction l with
  | nil => intro c x y h; exact h
  | cons f l ih => intro c x y h; exact ih _ (stp_congr c f h)
theorem stp_eq (c : Nat → Nat) (f : Fct) (he : f.e = true) : stp c f f.a.toNat = stp c f f.b.toNat := by
  unfold stp; rw [if_pos he]
  generalize c f.a.toNat = A
  generalize c f.b.toNat = B
  show (if A = max A B then min A B else A) = (if B = max A B then min A B else B)
  split <;> split <;> omega
theorem fold_eq (l : List Fct) : ∀ (c : Nat → Nat) (f : Fct), f ∈ l → f.e = true → l.foldl stp c f.a.toNat = l.foldl stp c f.b.toNat := by
  induction l with
  | nil => intro c f h; cases h
  | cons g l ih =>
    intro c f h he
    rcases List.mem_cons.1 h with rfl | h
    · exact fold_congr l _ (stp_eq c f he)
    · exact ih _ f h he
theorem cls_eq {l : List Fct} {f : Fct} (h : f ∈ l) (he : f.e = true) : cls l f.a.toNat = cls l f.b.toNat := fold_eq l id f h he

/-- A valuation that makes the equalities of l true cannot tell a term from its class. -/
theorem fold_least {α : Type} (v : Nat → α) (l : List Fct) : ∀ (c : Nat → Nat), (∀ t, v (c t) = v t) → (∀ f ∈ l, f.e = true → v f.a.toNat = v f.b.toNat) → ∀ t, v (l.foldl stp c t) = v t := by
  induction l with
  | nil => intro c h _ t; exact h t
  | cons f l ih =>
    intro c h hv
    refine ih _ ?_ (fun g hg => hv g (List.mem_cons_of_mem _ hg))
    intro t
    unfold stp
    by_cases he : f.e = true
    · rw [if_pos he]
      have h1 := hv f List.mem_cons_self he
      rw [← h f.a.toNat, ← h f.b.toNat] at h1
      rw [← h t]
      generalize c f.a.toNat = A at *
      generalize c f.b.toNat = B at *
      show v (if c t = max A B then min A B else c t) = v (c t)
      split
      · rename_i h4
        rw [h4]
        rcases Nat.le_total A B with h5 | h5
        · rw [Nat.min_eq_left h5, Nat.max_eq_right h5, h1]
        · rw [Nat.min_eq_right h5, Nat.max_eq_left h5, h1]
      · rfl
    · rw [if_neg he]; exact h t
theorem cls_least {α : Type} (v : Nat → α) (l : List Fct) (hv : ∀ f ∈ l, f.e = true → v f.a.toNat = v f.b.toNat) (t : Nat) : v (cls l t) = v t := fold_least v l id (fun _ => rfl) hv t

/-- v makes every fact of l true. -/
def Sat {α : Type} (v : Nat → α) (l : List Fct) : Prop := ∀ f ∈ l, (f.e = true ↔ v f.a.toNat = v f.b.toNat)

theorem sep_iff (c : Nat → Nat) (m : List Fct) : sep c m = true ↔ ∀ f ∈ m, f.e = false → c f.a.toNat ≠ c f.b.toNat := by
  unfold sep
  rw [List.all_eq_true]
  refine forall_congr' fun f => imp_congr_right fun _ => ?_
  cases f.e <;> simp

theorem sat_of_sep {l : List Fct} (h : sep (cls l) l = true) : Sat (cls l) l := by
  intro f hf
  rw [sep_iff] at h
  constructor
  · intro he; exact cls_eq hf he
  · intro he
    cases hfe : f.e with
    | true => rfl
    | false => exact absurd he (h f hf hfe)
theorem sep_of_sat {α : Type} {v : Nat → α} {l : List Fct} (h : Sat v l) : sep (cls l) l = true := by
  rw [sep_iff]
  intro f hf he hc
  have h1 := cls_least v l (fun g hg hge => (h g hg).1 hge)
  have h2 : v f.a.toNat = v f.b.toNat := by rw [← h1 f.a.toNat, ← h1 f.b.toNat, hc]
  have := (h f hf).2 h2
  rw [he] at this; cases this
theorem sep_mono {l m : List Fct} (h : ∀ f ∈ m, f ∈ l) (hs : sep (cls l) l = true) : sep (cls m) m = true :=
  sep_of_sat (v := cls l) fun f hf => sat_of_sep hs f (h f hf)

/-- The way the program takes to an answer: without the negated fact at the end of the list. -/
theorem fimp_way (l : List Fct) (f : Fct) : (!sep (cls (l ++ [neg f])) (l ++ [neg f])) =
    (if sep (cls l) l = false then true else if f.e = true then decide (cls l f.a.toNat = cls l f.b.toNat) else !sep (stp (cls l) ⟨true, f.a, f.b⟩) l) := by
  rw [cls_snoc]
  have hc : sep (stp (cls l) (neg f)) (l ++ [neg f]) = (sep (stp (cls l) (neg f)) l && (!f.e || !decide (stp (cls l) (neg f) f.a.toNat = stp (cls l) (neg f) f.b.toNat))) := by
    unfold sep; rw [List.all_append]; simp [neg]
  rw [hc]
  cases he : f.e with
  | true =>
    have h1 : stp (cls l) (neg f) = cls l := by unfold stp neg; simp [he]
    rw [h1]
    cases sep (cls l) l <;> simp
  | false =>
    have h1 : neg f = ⟨true, f.a, f.b⟩ := by unfold neg; rw [he]; rfl
    rw [h1]
    simp only [Bool.not_false, Bool.true_or, Bool.and_true, Bool.false_eq_true, if_false]
    by_cases hs : sep (cls l) l = false
    · rw [if_pos hs]
      have h2 : ¬ sep (stp (cls l) ⟨true, f.a, f.b⟩) l = true := by
        intro h3
        have h4 : ¬ sep (cls l) l = true := by rw [hs]; decide
        apply h4
        rw [sep_iff] at h3 ⊢
        intro g hg hge hgc
        exact h3 g hg hge (stp_congr _ _ hgc)
      cases h5 : sep (stp (cls l) ⟨true, f.a, f.b⟩) l with
      | true => exact absurd h5 h2
      | false => rfl
    · rw [if_neg hs]

theorem fsv_append_neg {l : List Fct} {f : Fct} (hl : l.length < 12) (h : fsv l = true) (hf : fv f = true) : fsv (l ++ [neg f]) = true := by
  rw [fsv_iff] at h ⊢
  refine ⟨by simp; omega, fun g hg => ?_⟩
  rcases List.mem_append.1 hg with hg | hg
  · exact h.2 g hg
  · rw [List.mem_singleton.1 hg]; rw [fv_iff] at hf ⊢; exact hf
theorem fsv_sub {l m : List Fct} (hl : m.length ≤ l.length) (hm : ∀ f ∈ m, f ∈ l) (h : fsv l = true) : fsv m = true := by
  rw [fsv_iff] at h ⊢
  exact ⟨by omega, fun f hf => h.2 f (hm f hf)⟩

/-- Implication is complete (FnFactsComplete). -/
theorem complete {l : List Fct} {f : Fct} (hl : l.length < 12) (h : fsv l = true) (hf : fv f = true) : fimp l f = !fcon (l ++ [neg f]) := by
  unfold fimp fcon
  rw [h, hf, fsv_append_neg hl h hf]; simp
/-- Implication is monotonic (FnFactsMore). -/
theorem more {l : List Fct} {f : Fct} (hl : fsv l = true) (i : Nat) (h : fimp (l.take i) f = true) : fimp l f = true := by
  unfold fimp at h ⊢
  simp only [Bool.and_eq_true, Bool.not_eq_true', hl, true_and] at h ⊢
  refine ⟨h.1.2, ?_⟩
  cases h1 : sep (cls (l ++ [neg f])) (l ++ [neg f]) with
  | false => rfl
  | true =>
    have h2 : sep (cls (l.take i ++ [neg f])) (l.take i ++ [neg f]) = true := sep_mono (fun g hg => by
      rcases List.mem_append.1 hg with hg | hg
      · exact List.mem_append.2 (.inl (List.mem_of_mem_take hg))
      · exact List.mem_append.2 (.inr hg)) h1
    rw [h2] at h; exact absurd h.2 (by decide)
theorem self {l : List Fct} {f : Fct} (hl : fsv l = true) (hf : f ∈ l) : fimp l f = true := by
  unfold fimp
  simp only [Bool.and_eq_true, Bool.not_eq_true', hl, true_and]
  refine ⟨(fsv_iff l).1 hl |>.2 f hf, ?_⟩
  cases h1 : sep (cls (l ++ [neg f])) (l ++ [neg f]) with
  | false => rfl
  | true =>
    have h2 := sat_of_sep h1
    have h3 := h2 f (List.mem_append.2 (.inl hf))
    have h4 := h2 (neg f) (List.mem_append.2 (.inr (List.mem_singleton.2 rfl)))
    unfold neg at h4
    simp only [Bool.not_eq_true'] at h4
    cases hfe : f.e with
    | true => exact absurd (h4.2 (h3.1 hfe)) (by rw [hfe]; decide)
    | false => exact absurd (h3.2 (h4.1 hfe)) (by rw [hfe]; decide)
/-- A term is equal to its class by the facts (FnTermClasses). -/
theorem imp_cls {l : List Fct} (hl : fsv l = true) {t : Nat} (ht : t ≤ 8) : fimp l ⟨true, t, (cls l t : Nat)⟩ = true := by
  unfold fimp
  have h0 := cls_le l t
  have hv : fv ⟨true, t, (cls l t : Nat)⟩ = true := by rw [fv_iff]; exact ⟨⟨by simp, by show (t : Int) ≤ 8; omega⟩, ⟨by simp, by show ((cls l t : Nat) : Int) ≤ 8; omega⟩⟩
  rw [hl, hv, fimp_way]
  simp only [Int.toNat_natCast, if_true, cls_idem, decide_true, Bool.and_self]
  split <;> rfl
/-- Classes do not depend on the order of the facts, nor on their sides (FnFactsOrder). -/
theorem cls_same {l m : List Fct} (h : ∀ f ∈ l, f.e = true → cls m f.a.toNat = cls m f.b.toNat) (k : ∀ f ∈ m, f.e = true → cls l f.a.toNat = cls l f.b.toNat) (t : Nat) : cls l t = cls m t := by
  have h1 := cls_least (cls m) l h t
  have h2 := cls_least (cls l) m k t
  have h3 := cls_le m (cls l t)
  have h4 := cls_le l (cls m t)
  omega
def swp (f : Fct) : Fct := ⟨f.e, f.b, f.a⟩
theorem mem_back {l : List Fct} {f : Fct} : f ∈ (l.map swp).reverse ↔ swp f ∈ l := by
  rw [List.mem_reverse, List.mem_map]
  constructor
  · rintro ⟨g, hg, rfl⟩; exact hg
  · intro h; exact ⟨swp f, h, rfl⟩
theorem cls_back (l : List Fct) (t : Nat) : cls (l.map swp).reverse t = cls l t := by
  refine cls_same (fun f hf he => (cls_eq (mem_back.1 hf) he).symm) (fun f hf he => ?_) t
  have : swp f ∈ (l.map swp).reverse := mem_back.2 hf
  exact (cls_eq this he).symm
theorem fsv_back (l : List Fct) : fsv (l.map swp).reverse = fsv l := by
  unfold fsv
  rw [List.length_reverse, List.length_map, List.all_reverse, List.all_map]
  congr 2; funext f; unfold Function.comp fv swp; exact Bool.and_comm _ _
theorem sep_back (l : List Fct) : sep (cls (l.map swp).reverse) (l.map swp).reverse = sep (cls l) l := by
  unfold sep
  rw [List.all_reverse, List.all_map]
  congr 1; funext f
  show (f.e || !decide (cls (l.map swp).reverse f.b.toNat = cls (l.map swp).reverse f.a.toNat)) = _
  rw [cls_back, cls_back]
  congr 2
  exact decide_eq_decide.2 eq_comm
theorem fcon_back (l : List Fct) : fcon (l.map swp).reverse = fcon l := by unfold fcon; rw [fsv_back, sep_back]
/-- A part of consistent facts is consistent (FnFactsSubset). -/
theorem fcon_sub {l m : List Fct} (hl : m.length ≤ l.length) (hm : ∀ f ∈ m, f ∈ l) (h : fcon l = true) : fcon m = true := by
  unfold fcon at h ⊢
  rw [Bool.and_eq_true] at h ⊢
  exact ⟨fsv_sub hl hm h.1, sep_mono hm h.2⟩

/-- The value of a term, where vs has those of the terms other than nil. -/
def tval (vs : List Int) (t : Int) : Int := if t = 0 then 0 else vs.getD (t - 1).toNat 0
def holdB (l : List Fct) (vs : List Int) : Bool := l.all fun f => (decide (tval vs f.a = tval vs f.b)) == f.e
def fhold (l : List Fct) (vs : List Int) : Bool := fsv l && decide (vs.length = 8) && holdB l vs
theorem hold_sat {l : List Fct} {vs : List Int} (hl : fsv l = true) : holdB l vs = true ↔ Sat (fun t => tval vs t) l := by
  unfold holdB Sat
  rw [List.all_eq_true]
  refine forall_congr' fun f => imp_congr_right fun hf => ?_
  have h1 := (fv_iff f).1 ((fsv_iff l).1 hl |>.2 f hf)
  have ha : ((f.a.toNat : Nat) : Int) = f.a := by omega
  have hb : ((f.b.toNat : Nat) : Int) = f.b := by omega
  show _ ↔ (f.e = true ↔ tval vs ((f.a.toNat : Nat) : Int) = tval vs ((f.b.toNat : Nat) : Int))
  rw [ha, hb]
  cases f.e <;> simp
/-- Facts that hold are consistent (FnFactsConsistent). -/
theorem con_of_hold {l : List Fct} {vs : List Int} (h : fhold l vs = true) : fcon l = true := by
  unfold fhold at h; unfold fcon
  simp only [Bool.and_eq_true] at h ⊢
  exact ⟨h.1.1, sep_of_sat ((hold_sat h.1.1).1 h.2)⟩
def clsL (l : List Fct) : List Int := (List.range 9).map fun t => ((cls l t : Nat) : Int)
theorem clsL_length (l : List Fct) : (clsL l).length = 9 := by simp [clsL]
theorem clsL_get (l : List Fct) {t : Nat} (h : t < 9) : (clsL l)[t]? = some ((cls l t : Nat) : Int) := by
  unfold clsL; simp [h]
theorem tval_cls (l : List Fct) {t : Nat} (ht : t ≤ 8) : tval ((clsL l).drop 1) (t : Int) = ((cls l t : Nat) : Int) := by
  unfold tval
  by_cases h : t = 0
  · subst h; simp [cls_zero]
  · rw [if_neg (by omega), show ((t : Int) - 1).toNat = t - 1 from by omega]
    rw [List.getD_eq_getElem?_getD, List.getElem?_drop, show 1 + (t - 1) = t from by omega, clsL_get l (by omega)]; rfl
/-- Consistent facts hold for the classes as values (FnFactsConsistent). -/
theorem hold_cls {l : List Fct} (h : fcon l = true) : fhold l ((clsL l).drop 1) = true := by
  unfold fcon at h; unfold fhold
  simp only [Bool.and_eq_true] at h ⊢
  refine ⟨⟨h.1, by simp [clsL_length]⟩, (hold_sat h.1).2 fun f hf => ?_⟩
  have h1 := (fv_iff f).1 ((fsv_iff l).1 h.1 |>.2 f hf)
  show f.e = true ↔ tval ((clsL l).drop 1) ((f.a.toNat : Nat) : Int) = tval ((clsL l).drop 1) ((f.b.toNat : Nat) : Int)
  rw [tval_cls l (by omega), tval_cls l (by omega)]
  exact (sat_of_sep h.2 f hf).trans (by omega)
/-- Implication is sound (FnFactsImply). -/
theorem sound {l : List Fct} {f : Fct} {vs : List Int} (h : fimp l f = true) (hv : fhold l vs = true) : fhold [f] vs = true := by
  unfold fimp at h; unfold fhold at hv ⊢
  simp only [Bool.and_eq_true, Bool.not_eq_true'] at h hv ⊢
  have hf1 : fsv [f] = true := by rw [fsv_iff]; exact ⟨by simp, fun g hg => by rw [List.mem_singleton.1 hg]; exact h.1.2⟩
  refine ⟨⟨hf1, hv.1.2⟩, ?_⟩
  cases hh : holdB [f] vs with
  | true => rfl
  | false =>
    have h1 := (hold_sat hv.1.1).1 hv.2
    have h2 : ¬ Sat (fun t : Nat => tval vs (t : Int)) [f] := by rw [← hold_sat hf1, hh]; decide
    have h3 : Sat (fun t : Nat => tval vs (t : Int)) (l ++ [neg f]) := by
      intro g hg
      rcases List.mem_append.1 hg with hg | hg
      · exact h1 g hg
      · rw [List.mem_singleton.1 hg]
        have h4 : ¬ (f.e = true ↔ tval vs ((f.a.toNat : Nat) : Int) = tval vs ((f.b.toNat : Nat) : Int)) := fun h5 => h2 (fun g hg => by rw [List.mem_singleton.1 hg]; exact h5)
        show (!f.e) = true ↔ tval vs ((f.a.toNat : Nat) : Int) = tval vs ((f.b.toNat : Nat) : Int)
        cases he : f.e <;> simp [he] at h4 ⊢ <;> exact h4
    rw [sep_of_sat h3] at h
    exact absurd h.2 (by decide)

end Go.Proofs.YtinnopkeoohgeaaDoor.Pl
