/- The reader of drawn numbers: it picks numbers within the bounds asked for. Conditions: it has not yet picked more than a million. -/
import Derived.Test.YtmkmimlabmlhnaaApp
import Derived.Laws.BitsAllLaws
import Derived.Laws.BitsLemmas
namespace Go.Proofs.Ytmkmimlabmlhnaa
open Go.RowKit
set_option linter.unusedVariables false

theorem by_drewN {a w : World} {row : Option Nat} (h : a.grownBy w row) (n : Nat) : a.grownBy (w.drewN n) row := ⟨h.os, h.tape, h.output, h.size, h.block⟩
theorem by_trans {a b c : World} {row : Option Nat} (h : a.grownBy b row) (k : b.grownBy c row) : a.grownBy c row :=
  ⟨k.os.trans h.os, k.tape.trans h.tape, k.output.trans h.output, Nat.le_trans h.size k.size, fun i hi hne => (k.block i (Nat.lt_of_lt_of_le hi h.size) hne).trans (h.block i hi hne)⟩
theorem by_alloc {a w : World} {row : Option Nat} (h : a.grownBy w row) (o : Obj) : a.grownBy (w.alloc o) row := by_trans h (Grow.by_ (Grow.alloc (Grow.refl _) o) row)
theorem by_grow {a b c : World} {row : Option Nat} (h : a.grownBy b row) (k : Grow b c) : a.grownBy c row := by_trans h (k.by_ row)
/-- Behind a step below which all stays, too. -/
theorem by_below {a b c : World} {B : Nat} {row : Option Nat} (h : a.grownBy b row) (k : Below B b c) (hB : a.heap.size ≤ B) : a.grownBy c row :=
  ⟨k.os.trans h.os, k.tape.trans h.tape, k.output.trans h.output, Nat.le_trans h.size k.size, fun i hi hne => (k.block i (by omega)).trans (h.block i hi hne)⟩

end Go.Proofs.Ytmkmimlabmlhnaa
