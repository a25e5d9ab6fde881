/- Contracts of keeping and dropping cells of a state in the reference. Conditions: the lengths are far from Go's bounds. -/
import Derived.Test.YtlcijjbeikoppaaKp
import Derived.Deep.RegionWith
namespace Go.Proofs.Ytlcijjbeikoppaa
open Go.RowKit
set_option linter.unusedVariables false

/-- What a choice of cells gives in the reference. -/
def RFlg (w : World) (r : Option (Int → Bool)) (e : Ending) (w' : World) : Prop := match r with
  | none => ∃ g c, e = .returned (.tuple #[.slice (some ⟨g, 0, none⟩) 9 c, .bool false])
  | some p => ∃ g c, e = .returned (.tuple #[.slice (some ⟨g, 0, none⟩) 9 c, .bool true]) ∧ OFlg w' w.heap.size (some ⟨g, 0, none⟩) c 9 p
theorem RFlg.no {w w' : World} {r : Option (Int → Bool)} {e : Ending} {g c : Nat} (h : r = none) (he : e = .returned (.tuple #[.slice (some ⟨g, 0, none⟩) 9 c, .bool false])) : RFlg w r e w' := by subst h; exact ⟨g, c, he⟩
theorem RFlg.yes {w w' : World} {r : Option (Int → Bool)} {p : Int → Bool} {e : Ending} {g c : Nat} (h : r = some p) (he : e = .returned (.tuple #[.slice (some ⟨g, 0, none⟩) 9 c, .bool true])) (ho : OFlg w' w.heap.size (some ⟨g, 0, none⟩) c 9 p) : RFlg w r e w' := by subst h; exact ⟨g, c, he, ho⟩

theorem keep_eq (p : Int → Bool) : (fun t => p t == true) = p := by funext t; simp
theorem drop_eq (p : Int → Bool) : (fun t => p t == false) = fun t => !p t := by funext t; cases p t <;> rfl

end Go.Proofs.Ytlcijjbeikoppaa
