/- A box of three cells. No conditions. -/
import Derived.Test.YtifdefkkofngoaaDoorStM
namespace Go.Proofs.YtifdefkkofngoaaDoor
open Go.RowKit
set_option linter.unusedVariables false

/-! ### A box of three cells -/
def Box3 (w : World) (g E : Nat) (x y z : Value) : Prop := w.heap[g]? = some (.cells #[x, y, z] E (0, 0))
theorem Box3.new (w : World) (E : Nat) (x y z : Value) : Box3 (w.alloc (.cells #[x, y, z] E)) w.heap.size E x y z := heap_alloc_new w _
theorem Box3.grow {w w' : World} {g E : Nat} {x y z : Value} (h : Box3 w g E x y z) (k : Grow w w') : Box3 w' g E x y z := k.heap h
theorem Box3.lt {w : World} {g E : Nat} {x y z : Value} (h : Box3 w g E x y z) : g < w.heap.size := (Array.getElem?_eq_some_iff.1 h).1
theorem Box3.facts {w : World} {g E : Nat} {x y z : Value} (h : Box3 w g E x y z) : w.cell? ⟨g, 0, none⟩ = some x ∧ w.cell? ⟨g, 1, none⟩ = some y ∧ w.cell? ⟨g, 2, none⟩ = some z := by
  unfold Box3 at h
  exact ⟨by rw [cell_of_row w g 0 _ _ (0, 0) h]; rfl, by rw [cell_of_row w g 1 _ _ (0, 0) h]; rfl, by rw [cell_of_row w g 2 _ _ (0, 0) h]; rfl⟩

theorem Box3.kept {w w' : World} {g E : Nat} {x y z : Value} {row : Option Nat} (h : Box3 w g E x y z) (hg : w.grownBy w' row) (hne : row ≠ some g) : Box3 w' g E x y z := (hg.block g h.lt (fun e => hne e.symm)).trans h
theorem Box3.below {w w' : World} {g E B : Nat} {x y z : Value} (h : Box3 w g E x y z) (b : Below B w w') (hB : g < B) : Box3 w' g E x y z := (b.block g hB).trans h
theorem Marked.box3 {w w' : World} {v1 v2 : Value} {g E lo1 hi1 lo2 hi2 : Nat} {x y z : Value} (h : Marked w w' v1 v2) (o : Box3 w g E x y z) (b1 : Bd lo1 hi1 v1) (b2 : Bd lo2 hi2 v2) (e1 : g < lo1 ∨ hi1 ≤ g) (e2 : g < lo2 ∨ hi2 ≤ g) : Box3 w' g E x y z := by
  obtain ⟨wa, wb, g, r1, r2⟩ := h
  exact ((o.grow g).kept r1 (Bd.off b1 e1)).kept r2 (Bd.off b2 e2)
theorem Box3.far {w : World} {g E : Nat} {x y z : Value} (h : Box3 w g E x y z) {p : Addr} (hp : g ≠ p.block) (u : Value) : Box3 (w.setCell p u) g E x y z := (Below.heap_setCell w p u g hp).trans h
theorem Box2.bel {w w' : World} {g E B : Nat} {x y : Value} (h : Box2 w g E x y) (b : Below B w w') (hB : g < B) : Box2 w' g E x y := (b.block g hB).trans h

end Go.Proofs.YtifdefkkofngoaaDoor
