/- Words for states in memory; contracts of the tests of addresses and values, of reading a cell, of the laws' own conversions and marks of states. No conditions but Go's own bounds. -/
import Derived.Test.YtljamkcapfdgcaaMark
import Derived.Test.YtljamkcapfdgcaaApp
import Derived.Test.YtljamkcapfdgcaaPlainStates
namespace Go.Proofs.Ytljamkcapfdgcaa
open Go.RowKit
set_option linter.unusedVariables false

/-- A state that can be read. -/
structure Sts (w : World) (A B : Option Addr) (s : Pl.St) : Prop where
  v : Ints w A s.v
  h : Ints w B s.h
theorem Sts.grow {w w' : World} {A B : Option Addr} {s : Pl.St} (k : Sts w A B s) (g : Grow w w') : Sts w' A B s := ⟨k.v.grow g, k.h.grow g⟩
/-- A state in two rows of the call's own. -/
structure OSt (w : World) (lo : Nat) (A B : Option Addr) (c d : Nat) (s : Pl.St) : Prop where
  v : OInts w lo (.slice A s.v.length c) s.v
  h : OInts w lo (.slice B s.h.length d) s.h
  ap : ∀ k, (Value.slice A s.v.length c).ownBlock = some k → (Value.slice B s.h.length d).ownBlock ≠ some k
theorem OSt.st {w : World} {lo : Nat} {A B : Option Addr} {c d : Nat} {s : Pl.St} (k : OSt w lo A B c d s) : Sts w A B s := ⟨OInts.ints rfl k.v, OInts.ints rfl k.h⟩
theorem OSt.grow {w w' : World} {lo : Nat} {A B : Option Addr} {c d : Nat} {s : Pl.St} (k : OSt w lo A B c d s) (g : Grow w w') : OSt w' lo A B c d s := ⟨own_grow k.v g, own_grow k.h g, k.ap⟩
theorem OSt.lo {w : World} {lo lo' : Nat} {A B : Option Addr} {c d : Nat} {s : Pl.St} (k : OSt w lo A B c d s) (h : lo' ≤ lo) : OSt w lo' A B c d s := ⟨own_lo k.v h, own_lo k.h h, k.ap⟩
theorem OSt.emp (w : World) (lo : Nat) : OSt w lo none none 0 0 Pl.emp := ⟨⟨rfl, .inl ⟨rfl, rfl⟩⟩, ⟨rfl, .inl ⟨rfl, rfl⟩⟩, fun k h => by cases h⟩
/-- Behind a step that writes one row alone, neither of these. -/
theorem OSt.kept {w w' : World} {lo : Nat} {A B : Option Addr} {c d : Nat} {s : Pl.St} {row : Option Nat} (k : OSt w lo A B c d s) (g : w.grownBy w' row) (hr : ∀ k, row = some k → k < lo ∨ w.heap.size ≤ k) : OSt w' lo A B c d s :=
  ⟨apart_kept k.v (Grow.refl _) g hr, apart_kept k.h (Grow.refl _) g hr, k.ap⟩
abbrev sval (A B : Option Addr) (c d : Nat) (s : Pl.St) : Value := .agg #[.slice A s.v.length c, .slice B s.h.length d]

/-! ### A box of two cells -/
def Box2 (w : World) (g E : Nat) (x y : Value) : Prop := w.heap[g]? = some (.cells #[x, y] E (0, 0))
theorem Box2.new (w : World) (E : Nat) (x y : Value) : Box2 (w.alloc (.cells #[x, y] E)) w.heap.size E x y := heap_alloc_new w _
theorem Box2.grow {w w' : World} {g E : Nat} {x y : Value} (h : Box2 w g E x y) (k : Grow w w') : Box2 w' g E x y := k.heap h
theorem Box2.lt {w : World} {g E : Nat} {x y : Value} (h : Box2 w g E x y) : g < w.heap.size := (Array.getElem?_eq_some_iff.1 h).1
theorem Box2.facts {w : World} {g E : Nat} {x y : Value} (h : Box2 w g E x y) : w.cell? ⟨g, 0, none⟩ = some x ∧ w.cell? ⟨g, 1, none⟩ = some y ∧ w.frozen? ⟨g, 0, none⟩ = false ∧ w.frozen? ⟨g, 1, none⟩ = false := by
  unfold Box2 at h
  refine ⟨by rw [cell_of_row w g 0 _ _ (0, 0) h]; rfl, by rw [cell_of_row w g 1 _ _ (0, 0) h]; rfl, ?_, ?_⟩ <;> simp [World.frozen?, h]
theorem Box2.set0 {w : World} {g E : Nat} {x y : Value} (h : Box2 w g E x y) (u : Value) : Box2 (w.setCell ⟨g, 0, none⟩ u) g E u y := by
  unfold Box2 at h ⊢; simp [World.setCell, Array.getElem?_modify, h]
theorem Box2.set1 {w : World} {g E : Nat} {x y : Value} (h : Box2 w g E x y) (u : Value) : Box2 (w.setCell ⟨g, 1, none⟩ u) g E x u := by
  unfold Box2 at h ⊢; simp [World.setCell, Array.getElem?_modify, h]
theorem Box2.far {w : World} {g E : Nat} {x y : Value} (h : Box2 w g E x y) {p : Addr} (hp : g ≠ p.block) (u : Value) : Box2 (w.setCell p u) g E x y := (Below.heap_setCell w p u g hp).trans h
theorem Box2.kept {w w' : World} {g E : Nat} {x y : Value} {row : Option Nat} (h : Box2 w g E x y) (hg : w.grownBy w' row) (hne : row ≠ some g) : Box2 w' g E x y := (hg.block g h.lt (fun e => hne e.symm)).trans h
/-- A row of the call's own, behind a store elsewhere. -/
theorem own_far {w : World} {lo E sz n : Nat} {v : Value} {xs : List Value} (h : w.ownsRow lo E sz v n xs) {p : Addr} (hp : ∀ k, v.ownBlock = some k → p.block ≠ k) (u : Value) : (w.setCell p u).ownsRow lo E sz v n xs := by
  obtain ⟨h1, h2⟩ := h
  refine ⟨h1, ?_⟩
  rcases h2 with hn | ⟨g, cap, cur, hv, hb, hgg, rest⟩
  · exact .inl hn
  · refine .inr ⟨g, cap, cur, hv, hb, (Below.heap_setCell w p u g (fun e => ?_)).trans hgg, rest⟩
    exact hp g (by rw [hv]; rfl) e.symm
theorem own_far_lo {w : World} {lo E sz n : Nat} {v : Value} {xs : List Value} (h : w.ownsRow lo E sz v n xs) {p : Addr} (hp : p.block < lo) (u : Value) : (w.setCell p u).ownsRow lo E sz v n xs :=
  own_far h (fun k hk e => by have := own_blk h k hk; omega) u
theorem OSt.far {w : World} {lo : Nat} {A B : Option Addr} {c d : Nat} {s : Pl.St} (k : OSt w lo A B c d s) {p : Addr} (hp : p.block < lo) (u : Value) : OSt (w.setCell p u) lo A B c d s := ⟨own_far_lo k.v hp u, own_far_lo k.h hp u, k.ap⟩
theorem Sts.kept {w w' : World} {A B : Option Addr} {s : Pl.St} {lo : Nat} (k : Sts w A B s) (g : Below lo w w') (hl : w.heap.size ≤ lo) : Sts w' A B s := k.grow (g.mono hl)

end Go.Proofs.Ytljamkcapfdgcaa
