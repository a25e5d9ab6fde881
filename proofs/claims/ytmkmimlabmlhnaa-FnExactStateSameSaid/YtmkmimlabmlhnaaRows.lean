/-
  No cell of these rows narrows 'for every input' (looked for: loops, veiled, ifaces, maps, wideKeys, modest, calm, conditions, laid).
  DERIVED. THE GIVEN ROWS OF THIS SEAT. 10 by the template 'for every input the law returns true; each argument reads behind the call as it read before'; 0 by the template 'total and deterministic' (their statements: YtmkmimlabmlhnaaTotals.lean).
  GIVEN WITH THE SEED: the statements are not yours to turn. If you find one false, say at which input.
  Laid BY PROGRAM, IN A SANDBOX (cutbox-rows.mjs): the forced cells as the released guide's own fill.sh prints them over the translation 36506977da4c0197… (all of the seat's roots in one cut). By AI agents, Wed Nov 11 2026. No macro, syntax, notation, axiom, sorry.
-/
import Derived.Test.YtmkmimlabmlhnaaChecked
import GoSem.Claim
import GoSem.ClaimJoined
import GoSem.ClaimMapViews
import Derived.JoinedTies
import Derived.KernelRfl
namespace Go.Proofs.Ytmkmimlabmlhnaa
/- THE CELL 'sum', in the pinned program and in every row, IS THE sha256 OF THE DUMP (.gsa) THAT YtmkmimlabmlhnaaProg.lean LOADS. Nothing in Lean hashes anything: it is a label: what it is worth is what the hold of that sum in a sandbox is worth. -/
noncomputable def Try.pinned : Pinned := { name := "ytmkmimlabmlhnaa", sum := "36506977da4c01978f80ccec26d1d8041646cd4d755c17abb121e4ae778a2c3b", checked := Try.checked }
namespace Rows
def none {H : Type} : Left H := { results := [], args := [] }

/-- 'laws.FnExactStateSame': WHATEVER THE INPUT: true; the input reads as it did. -/
def fnExactStateSameSpec : ChangeSpec := { name := "fnExactStateSame", fn := fun _ => fun
  | [d1, d2] => { results := [.lit (.bool true)], args := [d1, d2] }
  | _ => none }
def fnExactStateSameRow : OpenClaim := { program := "ytmkmimlabmlhnaa", sum := "36506977da4c01978f80ccec26d1d8041646cd4d755c17abb121e4ae778a2c3b", func := "loop.example/separation/laws.FnExactStateSame", spec := "fnExactStateSame", apart := false }
def FnExactStateSameSaid : Prop := fnExactStateSameRow.holds Try.pinned (OpenSpec.ofChange fnExactStateSameSpec)

/-- ITS FALSE NEIGHBOUR: 'it returns false'. Refute it at one input. -/
def fnExactStateSameWrong : ChangeSpec := { name := "fnExactStateSame", fn := fun _ => fun
  | [d1, d2] => { results := [.lit (.bool false)], args := [d1, d2] }
  | _ => none }
def FnExactStateSameWrongFalsely : Prop := fnExactStateSameRow.holds Try.pinned (OpenSpec.ofChange fnExactStateSameWrong)

/-- 'laws.FnExactStateValid': WHATEVER THE INPUT: true; the input reads as it did. -/
def fnExactStateValidSpec : ChangeSpec := { name := "fnExactStateValid", fn := fun _ => fun
  | [d] => { results := [.lit (.bool true)], args := [d] }
  | _ => none }
def fnExactStateValidRow : OpenClaim := { program := "ytmkmimlabmlhnaa", sum := "36506977da4c01978f80ccec26d1d8041646cd4d755c17abb121e4ae778a2c3b", func := "loop.example/separation/laws.FnExactStateValid", spec := "fnExactStateValid", apart := false }
def FnExactStateValidSaid : Prop := fnExactStateValidRow.holds Try.pinned (OpenSpec.ofChange fnExactStateValidSpec)

/-- ITS FALSE NEIGHBOUR: 'it returns false'. Refute it at one input. -/
def fnExactStateValidWrong : ChangeSpec := { name := "fnExactStateValid", fn := fun _ => fun
  | [d] => { results := [.lit (.bool false)], args := [d] }
  | _ => none }
def FnExactStateValidWrongFalsely : Prop := fnExactStateValidRow.holds Try.pinned (OpenSpec.ofChange fnExactStateValidWrong)

/-- 'laws.FnExactReadCell': WHATEVER THE INPUT: true; the input reads as it did. -/
def fnExactReadCellSpec : ChangeSpec := { name := "fnExactReadCell", fn := fun _ => fun
  | [d1, d2] => { results := [.lit (.bool true)], args := [d1, d2] }
  | _ => none }
def fnExactReadCellRow : OpenClaim := { program := "ytmkmimlabmlhnaa", sum := "36506977da4c01978f80ccec26d1d8041646cd4d755c17abb121e4ae778a2c3b", func := "loop.example/separation/laws.FnExactReadCell", spec := "fnExactReadCell", apart := false }
def FnExactReadCellSaid : Prop := fnExactReadCellRow.holds Try.pinned (OpenSpec.ofChange fnExactReadCellSpec)

/-- ITS FALSE NEIGHBOUR: 'it returns false'. Refute it at one input. -/
def fnExactReadCellWrong : ChangeSpec := { name := "fnExactReadCell", fn := fun _ => fun
  | [d1, d2] => { results := [.lit (.bool false)], args := [d1, d2] }
  | _ => none }
def FnExactReadCellWrongFalsely : Prop := fnExactReadCellRow.holds Try.pinned (OpenSpec.ofChange fnExactReadCellWrong)

/-- 'laws.FnExactValueOf': WHATEVER THE INPUT: true; the input reads as it did. -/
def fnExactValueOfSpec : ChangeSpec := { name := "fnExactValueOf", fn := fun _ => fun
  | [d1, d2] => { results := [.lit (.bool true)], args := [d1, d2] }
  | _ => none }
def fnExactValueOfRow : OpenClaim := { program := "ytmkmimlabmlhnaa", sum := "36506977da4c01978f80ccec26d1d8041646cd4d755c17abb121e4ae778a2c3b", func := "loop.example/separation/laws.FnExactValueOf", spec := "fnExactValueOf", apart := false }
def FnExactValueOfSaid : Prop := fnExactValueOfRow.holds Try.pinned (OpenSpec.ofChange fnExactValueOfSpec)

/-- ITS FALSE NEIGHBOUR: 'it returns false'. Refute it at one input. -/
def fnExactValueOfWrong : ChangeSpec := { name := "fnExactValueOf", fn := fun _ => fun
  | [d1, d2] => { results := [.lit (.bool false)], args := [d1, d2] }
  | _ => none }
def FnExactValueOfWrongFalsely : Prop := fnExactValueOfRow.holds Try.pinned (OpenSpec.ofChange fnExactValueOfWrong)

/-- 'laws.FnExactUsedCells': WHATEVER THE INPUT: true; the input reads as it did. -/
def fnExactUsedCellsSpec : ChangeSpec := { name := "fnExactUsedCells", fn := fun _ => fun
  | [d] => { results := [.lit (.bool true)], args := [d] }
  | _ => none }
def fnExactUsedCellsRow : OpenClaim := { program := "ytmkmimlabmlhnaa", sum := "36506977da4c01978f80ccec26d1d8041646cd4d755c17abb121e4ae778a2c3b", func := "loop.example/separation/laws.FnExactUsedCells", spec := "fnExactUsedCells", apart := false }
def FnExactUsedCellsSaid : Prop := fnExactUsedCellsRow.holds Try.pinned (OpenSpec.ofChange fnExactUsedCellsSpec)

/-- ITS FALSE NEIGHBOUR: 'it returns false'. Refute it at one input. -/
def fnExactUsedCellsWrong : ChangeSpec := { name := "fnExactUsedCells", fn := fun _ => fun
  | [d] => { results := [.lit (.bool false)], args := [d] }
  | _ => none }
def FnExactUsedCellsWrongFalsely : Prop := fnExactUsedCellsRow.holds Try.pinned (OpenSpec.ofChange fnExactUsedCellsWrong)

/-- 'laws.FnExactSetTerm': WHATEVER THE INPUT: true; the input reads as it did. -/
def fnExactSetTermSpec : ChangeSpec := { name := "fnExactSetTerm", fn := fun _ => fun
  | [d1, d2, d3] => { results := [.lit (.bool true)], args := [d1, d2, d3] }
  | _ => none }
def fnExactSetTermRow : OpenClaim := { program := "ytmkmimlabmlhnaa", sum := "36506977da4c01978f80ccec26d1d8041646cd4d755c17abb121e4ae778a2c3b", func := "loop.example/separation/laws.FnExactSetTerm", spec := "fnExactSetTerm", apart := false }
def FnExactSetTermSaid : Prop := fnExactSetTermRow.holds Try.pinned (OpenSpec.ofChange fnExactSetTermSpec)

/-- ITS FALSE NEIGHBOUR: 'it returns false'. Refute it at one input. -/
def fnExactSetTermWrong : ChangeSpec := { name := "fnExactSetTerm", fn := fun _ => fun
  | [d1, d2, d3] => { results := [.lit (.bool false)], args := [d1, d2, d3] }
  | _ => none }
def FnExactSetTermWrongFalsely : Prop := fnExactSetTermRow.holds Try.pinned (OpenSpec.ofChange fnExactSetTermWrong)

/-- 'laws.FnExactWalkCells': WHATEVER THE INPUT: true; the input reads as it did. -/
def fnExactWalkCellsSpec : ChangeSpec := { name := "fnExactWalkCells", fn := fun _ => fun
  | [d1, d2, d3] => { results := [.lit (.bool true)], args := [d1, d2, d3] }
  | _ => none }
def fnExactWalkCellsRow : OpenClaim := { program := "ytmkmimlabmlhnaa", sum := "36506977da4c01978f80ccec26d1d8041646cd4d755c17abb121e4ae778a2c3b", func := "loop.example/separation/laws.FnExactWalkCells", spec := "fnExactWalkCells", apart := false }
def FnExactWalkCellsSaid : Prop := fnExactWalkCellsRow.holds Try.pinned (OpenSpec.ofChange fnExactWalkCellsSpec)

/-- ITS FALSE NEIGHBOUR: 'it returns false'. Refute it at one input. -/
def fnExactWalkCellsWrong : ChangeSpec := { name := "fnExactWalkCells", fn := fun _ => fun
  | [d1, d2, d3] => { results := [.lit (.bool false)], args := [d1, d2, d3] }
  | _ => none }
def FnExactWalkCellsWrongFalsely : Prop := fnExactWalkCellsRow.holds Try.pinned (OpenSpec.ofChange fnExactWalkCellsWrong)

/-- 'laws.FnExactFreeCell': WHATEVER THE INPUT: true; the input reads as it did. -/
def fnExactFreeCellSpec : ChangeSpec := { name := "fnExactFreeCell", fn := fun _ => fun
  | [d1, d2] => { results := [.lit (.bool true)], args := [d1, d2] }
  | _ => none }
def fnExactFreeCellRow : OpenClaim := { program := "ytmkmimlabmlhnaa", sum := "36506977da4c01978f80ccec26d1d8041646cd4d755c17abb121e4ae778a2c3b", func := "loop.example/separation/laws.FnExactFreeCell", spec := "fnExactFreeCell", apart := false }
def FnExactFreeCellSaid : Prop := fnExactFreeCellRow.holds Try.pinned (OpenSpec.ofChange fnExactFreeCellSpec)

/-- ITS FALSE NEIGHBOUR: 'it returns false'. Refute it at one input. -/
def fnExactFreeCellWrong : ChangeSpec := { name := "fnExactFreeCell", fn := fun _ => fun
  | [d1, d2] => { results := [.lit (.bool false)], args := [d1, d2] }
  | _ => none }
def FnExactFreeCellWrongFalsely : Prop := fnExactFreeCellRow.holds Try.pinned (OpenSpec.ofChange fnExactFreeCellWrong)

/-- 'laws.FnExactWriteCell': WHATEVER THE INPUT: true; the input reads as it did. -/
def fnExactWriteCellSpec : ChangeSpec := { name := "fnExactWriteCell", fn := fun _ => fun
  | [d1, d2, d3] => { results := [.lit (.bool true)], args := [d1, d2, d3] }
  | _ => none }
def fnExactWriteCellRow : OpenClaim := { program := "ytmkmimlabmlhnaa", sum := "36506977da4c01978f80ccec26d1d8041646cd4d755c17abb121e4ae778a2c3b", func := "loop.example/separation/laws.FnExactWriteCell", spec := "fnExactWriteCell", apart := false }
def FnExactWriteCellSaid : Prop := fnExactWriteCellRow.holds Try.pinned (OpenSpec.ofChange fnExactWriteCellSpec)

/-- ITS FALSE NEIGHBOUR: 'it returns false'. Refute it at one input. -/
def fnExactWriteCellWrong : ChangeSpec := { name := "fnExactWriteCell", fn := fun _ => fun
  | [d1, d2, d3] => { results := [.lit (.bool false)], args := [d1, d2, d3] }
  | _ => none }
def FnExactWriteCellWrongFalsely : Prop := fnExactWriteCellRow.holds Try.pinned (OpenSpec.ofChange fnExactWriteCellWrong)

/-- 'laws.FnExactAllocCell': WHATEVER THE INPUT: true; the input reads as it did. -/
def fnExactAllocCellSpec : ChangeSpec := { name := "fnExactAllocCell", fn := fun _ => fun
  | [d] => { results := [.lit (.bool true)], args := [d] }
  | _ => none }
def fnExactAllocCellRow : OpenClaim := { program := "ytmkmimlabmlhnaa", sum := "36506977da4c01978f80ccec26d1d8041646cd4d755c17abb121e4ae778a2c3b", func := "loop.example/separation/laws.FnExactAllocCell", spec := "fnExactAllocCell", apart := false }
def FnExactAllocCellSaid : Prop := fnExactAllocCellRow.holds Try.pinned (OpenSpec.ofChange fnExactAllocCellSpec)

/-- ITS FALSE NEIGHBOUR: 'it returns false'. Refute it at one input. -/
def fnExactAllocCellWrong : ChangeSpec := { name := "fnExactAllocCell", fn := fun _ => fun
  | [d] => { results := [.lit (.bool false)], args := [d] }
  | _ => none }
def FnExactAllocCellWrongFalsely : Prop := fnExactAllocCellRow.holds Try.pinned (OpenSpec.ofChange fnExactAllocCellWrong)

/- THE SECOND FORM. 'bulk': how many values and letters a reading holds, each counted each time it is reached (what is shared counts as often as it is met; a slice's spare places count too). A statement '..UptoSaid' is the law's where the arguments, and the package variables that the reading takes, are together of bulk at most 1048576: NARROWER than '..Said'. Prove '..Said' where nothing that the law and all that it calls make is longer than what came in: it says more and counts as full. Else prove '..UptoSaid'. A law counts once. -/
mutual
def uptoBulk {H : Type} : DataW H → Nat
  | .lit (.string bytes) => bytes.length + 1
  | .lit _ => 1
  | .nil => 1
  | .ptr d => uptoBulk d + 1
  | .slice elems spare => uptoBulkAll elems + uptoBulkAll spare + 1
  | .agg parts => uptoBulkAll parts + 1
  | .iface _ d => uptoBulk d + 1
  | .map entries => uptoBulkEntries entries + 1
  | .held _ => 1
def uptoBulkAll {H : Type} : List (DataW H) → Nat
  | [] => 0
  | d :: r => uptoBulk d + uptoBulkAll r
def uptoBulkEntries {H : Type} : List (Lit × DataW H) → Nat
  | [] => 0
  | x :: r => uptoBulkEntry x + uptoBulkEntries r
def uptoBulkEntry {H : Type} : Lit × DataW H → Nat
  | (.string bytes, d) => bytes.length + uptoBulk d + 1
  | (_, d) => uptoBulk d + 1
 end
def uptoSmall : (H : Type) → List (DataW H) → Bool := fun _ ds => decide (uptoBulkAll ds ≤ 1048576)
def OpenSpec.upto (s : _root_.Go.ChangeSpec) : _root_.Go.OpenSpec := { _root_.Go.OpenSpec.ofChange s with cond := some uptoSmall }

/-- 'laws.FnExactStateSame', WHERE WHAT IT READS IS OF BULK AT MOST 1048576: true; the input reads as it did. -/
def fnExactStateSameUptoRow : OpenClaim := { program := "ytmkmimlabmlhnaa", sum := "36506977da4c01978f80ccec26d1d8041646cd4d755c17abb121e4ae778a2c3b", func := "loop.example/separation/laws.FnExactStateSame", spec := "fnExactStateSame", apart := false, narrowed := true }
def FnExactStateSameUptoSaid : Prop := fnExactStateSameUptoRow.holds Try.pinned (OpenSpec.upto fnExactStateSameSpec)

/-- 'laws.FnExactStateValid', WHERE WHAT IT READS IS OF BULK AT MOST 1048576: true; the input reads as it did. -/
def fnExactStateValidUptoRow : OpenClaim := { program := "ytmkmimlabmlhnaa", sum := "36506977da4c01978f80ccec26d1d8041646cd4d755c17abb121e4ae778a2c3b", func := "loop.example/separation/laws.FnExactStateValid", spec := "fnExactStateValid", apart := false, narrowed := true }
def FnExactStateValidUptoSaid : Prop := fnExactStateValidUptoRow.holds Try.pinned (OpenSpec.upto fnExactStateValidSpec)

/-- 'laws.FnExactReadCell', WHERE WHAT IT READS IS OF BULK AT MOST 1048576: true; the input reads as it did. -/
def fnExactReadCellUptoRow : OpenClaim := { program := "ytmkmimlabmlhnaa", sum := "36506977da4c01978f80ccec26d1d8041646cd4d755c17abb121e4ae778a2c3b", func := "loop.example/separation/laws.FnExactReadCell", spec := "fnExactReadCell", apart := false, narrowed := true }
def FnExactReadCellUptoSaid : Prop := fnExactReadCellUptoRow.holds Try.pinned (OpenSpec.upto fnExactReadCellSpec)

/-- 'laws.FnExactValueOf', WHERE WHAT IT READS IS OF BULK AT MOST 1048576: true; the input reads as it did. -/
def fnExactValueOfUptoRow : OpenClaim := { program := "ytmkmimlabmlhnaa", sum := "36506977da4c01978f80ccec26d1d8041646cd4d755c17abb121e4ae778a2c3b", func := "loop.example/separation/laws.FnExactValueOf", spec := "fnExactValueOf", apart := false, narrowed := true }
def FnExactValueOfUptoSaid : Prop := fnExactValueOfUptoRow.holds Try.pinned (OpenSpec.upto fnExactValueOfSpec)

/-- 'laws.FnExactUsedCells', WHERE WHAT IT READS IS OF BULK AT MOST 1048576: true; the input reads as it did. -/
def fnExactUsedCellsUptoRow : OpenClaim := { program := "ytmkmimlabmlhnaa", sum := "36506977da4c01978f80ccec26d1d8041646cd4d755c17abb121e4ae778a2c3b", func := "loop.example/separation/laws.FnExactUsedCells", spec := "fnExactUsedCells", apart := false, narrowed := true }
def FnExactUsedCellsUptoSaid : Prop := fnExactUsedCellsUptoRow.holds Try.pinned (OpenSpec.upto fnExactUsedCellsSpec)

/-- 'laws.FnExactSetTerm', WHERE WHAT IT READS IS OF BULK AT MOST 1048576: true; the input reads as it did. -/
def fnExactSetTermUptoRow : OpenClaim := { program := "ytmkmimlabmlhnaa", sum := "36506977da4c01978f80ccec26d1d8041646cd4d755c17abb121e4ae778a2c3b", func := "loop.example/separation/laws.FnExactSetTerm", spec := "fnExactSetTerm", apart := false, narrowed := true }
def FnExactSetTermUptoSaid : Prop := fnExactSetTermUptoRow.holds Try.pinned (OpenSpec.upto fnExactSetTermSpec)

/-- 'laws.FnExactWalkCells', WHERE WHAT IT READS IS OF BULK AT MOST 1048576: true; the input reads as it did. -/
def fnExactWalkCellsUptoRow : OpenClaim := { program := "ytmkmimlabmlhnaa", sum := "36506977da4c01978f80ccec26d1d8041646cd4d755c17abb121e4ae778a2c3b", func := "loop.example/separation/laws.FnExactWalkCells", spec := "fnExactWalkCells", apart := false, narrowed := true }
def FnExactWalkCellsUptoSaid : Prop := fnExactWalkCellsUptoRow.holds Try.pinned (OpenSpec.upto fnExactWalkCellsSpec)

/-- 'laws.FnExactFreeCell', WHERE WHAT IT READS IS OF BULK AT MOST 1048576: true; the input reads as it did. -/
def fnExactFreeCellUptoRow : OpenClaim := { program := "ytmkmimlabmlhnaa", sum := "36506977da4c01978f80ccec26d1d8041646cd4d755c17abb121e4ae778a2c3b", func := "loop.example/separation/laws.FnExactFreeCell", spec := "fnExactFreeCell", apart := false, narrowed := true }
def FnExactFreeCellUptoSaid : Prop := fnExactFreeCellUptoRow.holds Try.pinned (OpenSpec.upto fnExactFreeCellSpec)

/-- 'laws.FnExactWriteCell', WHERE WHAT IT READS IS OF BULK AT MOST 1048576: true; the input reads as it did. -/
def fnExactWriteCellUptoRow : OpenClaim := { program := "ytmkmimlabmlhnaa", sum := "36506977da4c01978f80ccec26d1d8041646cd4d755c17abb121e4ae778a2c3b", func := "loop.example/separation/laws.FnExactWriteCell", spec := "fnExactWriteCell", apart := false, narrowed := true }
def FnExactWriteCellUptoSaid : Prop := fnExactWriteCellUptoRow.holds Try.pinned (OpenSpec.upto fnExactWriteCellSpec)

/-- 'laws.FnExactAllocCell', WHERE WHAT IT READS IS OF BULK AT MOST 1048576: true; the input reads as it did. -/
def fnExactAllocCellUptoRow : OpenClaim := { program := "ytmkmimlabmlhnaa", sum := "36506977da4c01978f80ccec26d1d8041646cd4d755c17abb121e4ae778a2c3b", func := "loop.example/separation/laws.FnExactAllocCell", spec := "fnExactAllocCell", apart := false, narrowed := true }
def FnExactAllocCellUptoSaid : Prop := fnExactAllocCellUptoRow.holds Try.pinned (OpenSpec.upto fnExactAllocCellSpec)

end Rows
end Go.Proofs.Ytmkmimlabmlhnaa
