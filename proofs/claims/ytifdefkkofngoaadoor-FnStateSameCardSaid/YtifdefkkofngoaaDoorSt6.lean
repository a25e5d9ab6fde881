/- Contracts of changing values and cells of states, in the program and in the reference: the result lies in new memory. Conditions: the lengths are far from Go's bounds. -/
import Derived.Test.YtifdefkkofngoaaDoorSt5
namespace Go.Proofs.YtifdefkkofngoaaDoor
open Go.RowKit
set_option linter.unusedVariables false

theorem OSt.setV {w : World} {lo c d g k : Nat} {B : Option Addr} {v h : List Int} (H : OSt w lo (some ⟨g, 0, none⟩) B c d ⟨v, h⟩) (x : Int) : OSt (w.setCell ⟨g, k, none⟩ (.int .i64 x)) lo (some ⟨g, 0, none⟩) B c d ⟨v.set k x, h⟩ := by
  have hv : w.ownsRow lo 3 1 (.slice (some ⟨g, 0, none⟩) v.length c) v.length (v.map (.int .i64)) := H.v
  have ap : ∀ k, (Value.slice (some ⟨g, 0, none⟩) v.length c).ownBlock = some k → (Value.slice B h.length d).ownBlock ≠ some k := H.ap
  refine ⟨?_, own_far (p := ⟨g, k, none⟩) H.h (fun j hk e => ap g rfl (by rw [hk]; exact congrArg some e.symm)) (.int .i64 x), ?_⟩
  · show World.ownsRow _ lo _ 1 (.slice _ (v.set k x).length c) (v.set k x).length ((v.set k x).map (.int .i64))
    rw [List.length_set, List.map_set]
    exact own_set hv k _
  · show ∀ j, (Value.slice (some ⟨g, 0, none⟩) (v.set k x).length c).ownBlock = some j → (Value.slice B h.length d).ownBlock ≠ some j
    rw [List.length_set]; exact ap
theorem OSt.setH {w : World} {lo c d g k : Nat} {A : Option Addr} {v h : List Int} (H : OSt w lo A (some ⟨g, 0, none⟩) c d ⟨v, h⟩) (x : Int) : OSt (w.setCell ⟨g, k, none⟩ (.int .i64 x)) lo A (some ⟨g, 0, none⟩) c d ⟨v, h.set k x⟩ := by
  have hh : w.ownsRow lo 3 1 (.slice (some ⟨g, 0, none⟩) h.length d) h.length (h.map (.int .i64)) := H.h
  have ap : ∀ k, (Value.slice A v.length c).ownBlock = some k → (Value.slice (some ⟨g, 0, none⟩) h.length d).ownBlock ≠ some k := H.ap
  refine ⟨own_far (p := ⟨g, k, none⟩) H.v (fun j hk e => ap j hk (congrArg some e)) (.int .i64 x), ?_, ?_⟩
  · show World.ownsRow _ lo _ 1 (.slice _ (h.set k x).length d) (h.set k x).length ((h.set k x).map (.int .i64))
    rw [List.length_set, List.map_set]
    exact own_set hh k _
  · show ∀ j, (Value.slice A v.length c).ownBlock = some j → (Value.slice (some ⟨g, 0, none⟩) (h.set k x).length d).ownBlock ≠ some j
    rw [List.length_set]; exact ap
theorem sval_setV (A B : Option Addr) (c d k : Nat) (v h : List Int) (x : Int) : sval A B c d ⟨v.set k x, h⟩ = .agg #[.slice A v.length c, .slice B h.length d] := by
  show Value.agg #[.slice A (v.set k x).length c, .slice B h.length d] = _
  rw [List.length_set]
theorem sval_setH (A B : Option Addr) (c d k : Nat) (v h : List Int) (x : Int) : sval A B c d ⟨v, h.set k x⟩ = .agg #[.slice A v.length c, .slice B h.length d] := by
  show Value.agg #[.slice A v.length c, .slice B (h.set k x).length d] = _
  rw [List.length_set]
/-- What a call returns: a state in new memory, and whether it went well. -/
def RSt (w : World) (r : Pl.St × Bool) (e : Ending) (w' : World) : Prop := ∃ A B c d, e = .returned (.tuple #[sval A B c d r.1, .bool r.2]) ∧ OSt w' w.heap.size A B c d r.1 ∧ Grow w w'
theorem RSt.no {w w' : World} {r : Pl.St × Bool} {e : Ending} (hr : r = (Pl.emp, false)) (he : e = .returned (.tuple #[.agg #[.slice none 0 0, .slice none 0 0], .bool false])) (hg : Grow w w') : RSt w r e w' := by
  subst hr he; exact ⟨none, none, 0, 0, rfl, OSt.emp _ _, hg⟩

/-- The stores at the end: into the copy, then into the result's box. -/
theorem end_setV {w w1 : World} {lo g c d k : Nat} {B : Option Addr} {v h : List Int} {r : Pl.St × Bool} {x : Int} (b : Nat) (hb : w.heap.size ≤ b) (hlo : b < lo) (hG : Grow w w1) (ho : OSt w1 lo (some ⟨g, 0, none⟩) B c d ⟨v, h⟩) (hr : r = (⟨v.set k x, h⟩, true)) (hgl : lo ≤ g) (o : Obj) (e : Ending) (he : e = .returned (.tuple #[.agg #[.slice (some ⟨g, 0, none⟩) v.length c, .slice B h.length d], .bool true])) (u1 u2 : Value) :
    RSt w r e ((((w1.setCell ⟨g, k, none⟩ (.int .i64 x)).setCell ⟨b, 0, none⟩ u1).setCell ⟨b, 1, none⟩ u2).alloc o) := by
  subst hr he
  have h1 := ho.setV (k := k) x
  exact ⟨_, _, _, _, by rw [sval_setV], (((h1.far hlo u1).far hlo u2).grow (Grow.alloc (Grow.refl _) o)).lo (by omega), (((hG.setCell (by show w.heap.size ≤ g; omega) _).setCell hb _).setCell hb _).alloc o⟩
theorem end_setH {w w1 : World} {lo g c d k : Nat} {A : Option Addr} {v h : List Int} {r : Pl.St × Bool} {x : Int} (b : Nat) (hb : w.heap.size ≤ b) (hlo : b < lo) (hG : Grow w w1) (ho : OSt w1 lo A (some ⟨g, 0, none⟩) c d ⟨v, h⟩) (hr : r = (⟨v, h.set k x⟩, true)) (hgl : lo ≤ g) (o : Obj) (e : Ending) (he : e = .returned (.tuple #[.agg #[.slice A v.length c, .slice (some ⟨g, 0, none⟩) h.length d], .bool true])) (u1 u2 : Value) :
    RSt w r e ((((w1.setCell ⟨g, k, none⟩ (.int .i64 x)).setCell ⟨b, 0, none⟩ u1).setCell ⟨b, 1, none⟩ u2).alloc o) := by
  subst hr he
  have h1 := ho.setH (k := k) x
  exact ⟨_, _, _, _, by rw [sval_setH], (((h1.far hlo u1).far hlo u2).grow (Grow.alloc (Grow.refl _) o)).lo (by omega), (((hG.setCell (by show w.heap.size ≤ g; omega) _).setCell hb _).setCell hb _).alloc o⟩





end Go.Proofs.YtifdefkkofngoaaDoor
