/- Contracts of allocation and of ways, in the program and in the reference. Conditions: the lengths are far from Go's bounds. -/
import Derived.Test.YtlcijjbeikoppaaSt7
namespace Go.Proofs.Ytlcijjbeikoppaa
open Go.RowKit
set_option linter.unusedVariables false

/-- What an allocation returns: a state in new memory, an address, and whether it went well. -/
def RSt3 (w : World) (r : Pl.St × Int × Bool) (e : Ending) (w' : World) : Prop := ∃ A B c d, e = .returned (.tuple #[sval A B c d r.1, .int .i64 r.2.1, .bool r.2.2]) ∧ OSt w' w.heap.size A B c d r.1 ∧ Grow w w'
theorem RSt3.no {w w' : World} {r : Pl.St × Int × Bool} {e : Ending} (hr : r = (Pl.emp, 0, false)) (he : e = .returned (.tuple #[.agg #[.slice none 0 0, .slice none 0 0], .int .i64 0, .bool false])) (hg : Grow w w') : RSt3 w r e w' := by
  subst hr he; exact ⟨none, none, 0, 0, rfl, OSt.emp _ _, hg⟩
theorem end3 {w w1 : World} {lo g c d k : Nat} {A : Option Addr} {v h : List Int} {r : Pl.St × Int × Bool} {x a : Int} (b : Nat) (hb : w.heap.size ≤ b) (hlo : b < lo) (hG : Grow w w1) (ho : OSt w1 lo A (some ⟨g, 0, none⟩) c d ⟨v, h⟩) (hr : r = (⟨v, h.set k x⟩, a, true)) (hgl : lo ≤ g) (o : Obj) (e : Ending) (he : e = .returned (.tuple #[.agg #[.slice A v.length c, .slice (some ⟨g, 0, none⟩) h.length d], .int .i64 a, .bool true])) (u1 u2 : Value) :
    RSt3 w r e ((((w1.setCell ⟨g, k, none⟩ (.int .i64 x)).setCell ⟨b, 0, none⟩ u1).setCell ⟨b, 1, none⟩ u2).alloc o) := by
  subst hr he
  have h1 := ho.setH (k := k) x
  exact ⟨_, _, _, _, by rw [sval_setH], (((h1.far hlo u1).far hlo u2).grow (Grow.alloc (Grow.refl _) o)).lo (by omega), (((hG.setCell (by show w.heap.size ≤ g; omega) _).setCell hb _).setCell hb _).alloc o⟩



/-- What a walk returns: the addresses on the way, and whether it arrived. -/
def RWay (w : World) (r : List Int × Bool) (e : Ending) (w' : World) : Prop := ∃ A c, e = .returned (.tuple #[.slice A r.1.length c, .bool r.2]) ∧ OInts w' w.heap.size (.slice A r.1.length c) r.1 ∧ Grow w w'

end Go.Proofs.Ytlcijjbeikoppaa
