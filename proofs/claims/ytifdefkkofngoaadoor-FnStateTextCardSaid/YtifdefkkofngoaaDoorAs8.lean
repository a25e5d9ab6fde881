/- Contract of the reference's substitution in assertions. Conditions: the lengths are far from Go's bounds. -/
import Derived.Test.YtifdefkkofngoaaDoorAs7
import Derived.Test.YtifdefkkofngoaaDoorPopHeld
namespace Go.Proofs.YtifdefkkofngoaaDoor
open Go.RowKit
set_option linter.unusedVariables false

theorem own_blw {w w' : World} {lo E sz n B : Nat} {v : Value} {xs : List Value} (h : w.ownsRow lo E sz v n xs) (b : Below B w w') (hB : ∀ k, v.ownBlock = some k → k < B) : w'.ownsRow lo E sz v n xs := by
  obtain ⟨h1, h2⟩ := h
  refine ⟨h1, ?_⟩
  rcases h2 with hn | ⟨g, cap, cur, hv, hb, hgg, rest⟩
  · exact .inl hn
  · exact .inr ⟨g, cap, cur, hv, hb, (b.block g (hB g (by rw [hv]; rfl))).trans hgg, rest⟩

end Go.Proofs.YtifdefkkofngoaaDoor
