/- Contracts of the validity of states, in the program and in the reference; of the laws' own marks of states; of copies. Conditions: the lengths are far from Go's bounds. -/
import Derived.Test.YtljamkcapfdgcaaSt2
namespace Go.Proofs.Ytljamkcapfdgcaa
open Go.RowKit
set_option linter.unusedVariables false

theorem al_step {α : Type} {p : α → Prop} {l : List α} {k : Nat} (h : k < l.length) (hv : ∀ f ∈ l.take k, p f) (hp : p l[k]) : ∀ f ∈ l.take (k + 1), p f := by
  intro f hf
  rw [take_snoc l k h] at hf
  rcases List.mem_append.1 hf with hf | hf
  · exact hv f hf
  · rw [List.mem_singleton.1 hf]; exact hp
theorem al_done {α : Type} {p : α → Prop} {l : List α} {k : Nat} (h : ¬ k < l.length) (hv : ∀ f ∈ l.take k, p f) : ∀ f ∈ l, p f := by rwa [take_eq_all h] at hv
theorem stv_bad1 {v h : List Int} (k : v.length ≠ 8) : Pl.stv ⟨v, h⟩ = false := by
  rw [Bool.eq_false_iff]; intro e; exact k (((Pl.stv_iff _).1 e).1.1)
theorem stv_bad2 {v h : List Int} (k : h.length ≠ 8) : Pl.stv ⟨v, h⟩ = false := by
  rw [Bool.eq_false_iff]; intro e; exact k (((Pl.stv_iff _).1 e).1.2)
theorem stv_bad3 {v h : List Int} {i : Nat} (hi : i < v.length) (k : Pl.vlB v[i] = false) : Pl.stv ⟨v, h⟩ = false := by
  rw [Bool.eq_false_iff]; intro e; have := ((Pl.stv_iff _).1 e).2.1 _ (List.getElem_mem hi); rw [k] at this; cases this
theorem stv_bad4 {v h : List Int} {i : Nat} (hi : i < h.length) (k : Pl.clB h[i] = false) : Pl.stv ⟨v, h⟩ = false := by
  rw [Bool.eq_false_iff]; intro e; have := ((Pl.stv_iff _).1 e).2.2 _ (List.getElem_mem hi); rw [k] at this; cases this
/-- The three ways of a cell's content. -/
theorem cl_ways (n : Int) : (n = -1 ∧ Pl.clB n = true ∧ (n != -1) = false) ∨ (Pl.vlB n = true ∧ Pl.clB n = true ∧ (n != -1) = true) ∨ (Pl.vlB n = false ∧ Pl.clB n = false ∧ (n != -1) = true) := by
  by_cases h1 : n = -1
  · subst h1; exact .inl ⟨rfl, rfl, rfl⟩
  · have hb : (n != -1) = true := by simp [h1]
    cases hv : Pl.vlB n with
    | true => exact .inr (.inl ⟨rfl, (Pl.clB_iff n).2 (by have := (Pl.vlB_iff n).1 hv; omega), hb⟩)
    | false =>
      refine .inr (.inr ⟨rfl, ?_, hb⟩)
      rw [Bool.eq_false_iff]; intro e
      have h2 := (Pl.clB_iff n).1 e
      rw [(Pl.vlB_iff n).2 (by omega)] at hv; cases hv

end Go.Proofs.Ytljamkcapfdgcaa
