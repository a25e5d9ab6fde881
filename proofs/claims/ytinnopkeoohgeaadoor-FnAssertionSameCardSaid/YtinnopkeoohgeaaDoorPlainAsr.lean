/- The plain mathematics of assertions: validity, substitution, conjunction, fresh variables, with no program in sight. No conditions. -/
import Derived.Test.YtinnopkeoohgeaaDoorPlainFacts
namespace Go.Proofs.YtinnopkeoohgeaaDoor.Pl

/-- An atom: its kind and two terms. -/
structure Atm where
  k : Int
  a : Int
  b : Int
deriving DecidableEq
/-- An assertion: facts and atoms. -/
structure Asr where
  f : List Fct
  a : List Atm
deriving DecidableEq

abbrev noA : Asr := ⟨[], []⟩
def av (x : Atm) : Bool := (decide (x.k = 1) || decide (x.k = 2)) && tmB x.a && tmB x.b
theorem av_iff (x : Atm) : av x = true ↔ (x.k = 1 ∨ x.k = 2) ∧ tmB x.a = true ∧ tmB x.b = true := by
  unfold av; rw [Bool.and_eq_true, Bool.and_eq_true, Bool.or_eq_true, decide_eq_true_iff, decide_eq_true_iff, and_assoc]
def asv (s : Asr) : Bool := fsv s.f && decide (s.a.length ≤ 6) && s.a.all av
theorem asv_iff (s : Asr) : asv s = true ↔ fsv s.f = true ∧ s.a.length ≤ 6 ∧ ∀ x ∈ s.a, av x = true := by
  unfold asv; rw [Bool.and_eq_true, Bool.and_eq_true, decide_eq_true_iff, List.all_eq_true, and_assoc]
theorem asv_len {s : Asr} (h : asv s = true) : s.f.length ≤ 12 ∧ s.a.length ≤ 6 := ⟨((fsv_iff _).1 ((asv_iff s).1 h).1).1, ((asv_iff s).1 h).2.1⟩

/-! ### Substitution -/
def sw (t x y : Int) : Int := if t = x then y else t
def sbF (x y : Int) (f : Fct) : Fct := ⟨f.e, sw f.a x y, sw f.b x y⟩
def sbA (x y : Int) (m : Atm) : Atm := ⟨m.k, sw m.a x y, sw m.b x y⟩
def sbs (s : Asr) (x y : Int) : Asr := ⟨s.f.map (sbF x y), s.a.map (sbA x y)⟩
def sbOk (s : Asr) (x y : Int) : Bool := asv s && (tmB x && tmB y && decide (x ≠ 0))
def sbR (s : Asr) (x y : Int) : Asr × Bool := if sbOk s x y then (sbs s x y, true) else (noA, false)
theorem sbR_ok {s : Asr} {x y : Int} (h : sbOk s x y = true) : sbR s x y = (sbs s x y, true) := by unfold sbR; rw [if_pos h]
theorem sbR_no {s : Asr} {x y : Int} (h : sbOk s x y = false) : sbR s x y = (noA, false) := by unfold sbR; rw [h]; rfl
theorem sbs_len (s : Asr) (x y : Int) : (sbs s x y).f.length = s.f.length ∧ (sbs s x y).a.length = s.a.length := ⟨by simp [sbs], by simp [sbs]⟩
theorem sbR_len (s : Asr) (x y : Int) : (sbR s x y).1.f.length ≤ s.f.length ∧ (sbR s x y).1.a.length ≤ s.a.length := by
  unfold sbR; split
  · simp [sbs]
  · simp
theorem sbR_lenN (s : Asr) (x y : Int) {n : Nat} (h1 : s.f.length ≤ n) (h2 : s.a.length ≤ n) : (sbR s x y).1.f.length ≤ n ∧ (sbR s x y).1.a.length ≤ n := ⟨Nat.le_trans (sbR_len s x y).1 h1, Nat.le_trans (sbR_len s x y).2 h2⟩
theorem sbOk_iff (s : Asr) (x y : Int) : sbOk s x y = true ↔ asv s = true ∧ tmB x = true ∧ tmB y = true ∧ x ≠ 0 := by
  unfold sbOk; rw [Bool.and_eq_true, Bool.and_eq_true, Bool.and_eq_true, decide_eq_true_iff, and_assoc]
theorem sw_tm {t x y : Int} (h : tmB t = true) (hy : tmB y = true) : tmB (sw t x y) = true := by unfold sw; split <;> assumption
theorem sbs_valid {s : Asr} {x y : Int} (h : asv s = true) (hy : tmB y = true) : asv (sbs s x y) = true := by
  obtain ⟨h1, h2, h3⟩ := (asv_iff s).1 h
  obtain ⟨k1, k2⟩ := (fsv_iff _).1 h1
  refine (asv_iff _).2 ⟨(fsv_iff _).2 ⟨by simp [sbs]; exact k1, ?_⟩, by simp [sbs]; exact h2, ?_⟩
  · intro f hf
    obtain ⟨g, hg, rfl⟩ := List.mem_map.1 hf
    have := k2 g hg
    unfold fv at this ⊢
    rw [Bool.and_eq_true] at this ⊢
    exact ⟨sw_tm this.1 hy, sw_tm this.2 hy⟩
  · intro f hf
    obtain ⟨g, hg, rfl⟩ := List.mem_map.1 hf
    obtain ⟨q1, q2, q3⟩ := (av_iff g).1 (h3 g hg)
    exact (av_iff _).2 ⟨q1, sw_tm q2 hy, sw_tm q3 hy⟩
theorem sw_comm {t x y u : Int} (h1 : x ≠ y) (h2 : u ≠ y) (h3 : u ≠ x) : sw (sw t x u) y u = sw (sw t y u) x u := by
  unfold sw
  by_cases ha : t = x
  · subst ha; rw [if_pos rfl, if_neg h2, if_neg h1, if_pos rfl]
  · by_cases hb : t = y
    · subst hb; rw [if_neg ha, if_pos rfl, if_neg h3]
    · rw [if_neg ha, if_neg hb, if_neg ha]
theorem sbs_comm (s : Asr) {x y u : Int} (h1 : x ≠ y) (h2 : u ≠ y) (h3 : u ≠ x) : sbs (sbs s x u) y u = sbs (sbs s y u) x u := by
  unfold sbs
  simp only [List.map_map, Asr.mk.injEq]
  constructor
  · refine List.map_congr_left fun f _ => ?_
    simp only [Function.comp_apply, sbF, Fct.mk.injEq, true_and]
    exact ⟨sw_comm h1 h2 h3, sw_comm h1 h2 h3⟩
  · refine List.map_congr_left fun f _ => ?_
    simp only [Function.comp_apply, sbA, Atm.mk.injEq, true_and]
    exact ⟨sw_comm h1 h2 h3, sw_comm h1 h2 h3⟩

/-! ### Conjunction -/
def join (s t : Asr) : Asr := ⟨s.f ++ t.f, s.a ++ t.a⟩
def starR (s t : Asr) : Asr × Bool := if asv s && asv t && asv (join s t) then (join s t, true) else (noA, false)
theorem starR_ok {s t : Asr} (h1 : asv s = true) (h2 : asv t = true) (h3 : asv (join s t) = true) : starR s t = (join s t, true) := by unfold starR; rw [h1, h2, h3]; rfl
theorem starR_1 {s t : Asr} (h1 : asv s = false) : starR s t = (noA, false) := by unfold starR; rw [h1]; rfl
theorem starR_2 {s t : Asr} (h2 : asv t = false) : starR s t = (noA, false) := by unfold starR; rw [h2, Bool.and_false]; rfl
theorem starR_3 {s t : Asr} (h3 : asv (join s t) = false) : starR s t = (noA, false) := by unfold starR; rw [h3, Bool.and_false]; rfl
theorem starR_len (s t : Asr) : (starR s t).1.f.length ≤ s.f.length + t.f.length ∧ (starR s t).1.a.length ≤ s.a.length + t.a.length := by
  unfold starR; split
  · simp [join]
  · simp
theorem join_nil (s : Asr) : join s noA = s := by unfold join; simp

/-! ### Terms that occur -/
def occF (f : Fct) (t : Int) : Bool := decide (f.a = t) || decide (f.b = t)
def occA (x : Atm) (t : Int) : Bool := decide (x.a = t) || decide (x.b = t)
def occ (s : Asr) (t : Int) : Bool := s.f.any (occF · t) || s.a.any (occA · t)
/-- The first logical variable from n on that does not occur. -/
def freshFrom (p : Int → Bool) : Nat → Int → Int × Bool
  | 0, _ => (0, false)
  | k + 1, t => if p t then freshFrom p k (t + 1) else (t, true)
def freshR (s : Asr) : Int × Bool := if asv s then freshFrom (occ s) 4 5 else (0, false)

end Go.Proofs.YtinnopkeoohgeaaDoor.Pl
