/-
  No cell of these rows narrows 'for every input' (looked for: loops, veiled, ifaces, maps, wideKeys, modest, calm, conditions, laid).
  DERIVED. THE GIVEN ROWS OF THIS SEAT. 9 by the template 'for every input the law returns true; each argument reads behind the call as it read before'; 0 by the template 'total and deterministic' (their statements: YtagihhainhdhfaaTotals.lean).
  GIVEN WITH THE SEED: the statements are not yours to turn. If you find one false, say at which input.
  Laid BY PROGRAM, IN A SANDBOX (cutbox-rows.mjs): the forced cells as the released guide's own fill.sh prints them over the translation 659b37391b2545a5… (all of the seat's roots in one cut). By AI agents, Wed Nov 11 2026. No macro, syntax, notation, axiom, sorry.
-/
import Derived.Test.YtagihhainhdhfaaChecked
import GoSem.Claim
import GoSem.ClaimJoined
import GoSem.ClaimMapViews
import Derived.JoinedTies
import Derived.KernelRfl
namespace Go.Proofs.Ytagihhainhdhfaa
/- THE CELL 'sum', in the pinned program and in every row, IS THE sha256 OF THE DUMP (.gsa) THAT YtagihhainhdhfaaProg.lean LOADS. Nothing in Lean hashes anything: it is a label: what it is worth is what the hold of that sum in a sandbox is worth. -/
noncomputable def Try.pinned : Pinned := { name := "ytagihhainhdhfaa", sum := "659b37391b2545a5435263a8f18bc6dec457a67d8bbc7fa1ae5ec39189d0cf48", checked := Try.checked }
namespace Rows
def none {H : Type} : Left H := { results := [], args := [] }

/-- 'laws.FnSetTerm': WHATEVER THE INPUT: true; the input reads as it did. -/
def fnSetTermSpec : ChangeSpec := { name := "fnSetTerm", fn := fun _ => fun
  | [d] => { results := [.lit (.bool true)], args := [d] }
  | _ => none }
def fnSetTermRow : OpenClaim := { program := "ytagihhainhdhfaa", sum := "659b37391b2545a5435263a8f18bc6dec457a67d8bbc7fa1ae5ec39189d0cf48", func := "loop.example/separation/laws.FnSetTerm", spec := "fnSetTerm", apart := false }
def FnSetTermSaid : Prop := fnSetTermRow.holds Try.pinned (OpenSpec.ofChange fnSetTermSpec)

/-- ITS FALSE NEIGHBOUR: 'it returns false'. Refute it at one input. -/
def fnSetTermWrong : ChangeSpec := { name := "fnSetTerm", fn := fun _ => fun
  | [d] => { results := [.lit (.bool false)], args := [d] }
  | _ => none }
def FnSetTermWrongFalsely : Prop := fnSetTermRow.holds Try.pinned (OpenSpec.ofChange fnSetTermWrong)

/-- 'laws.FnReadWrite': WHATEVER THE INPUT: true; the input reads as it did. -/
def fnReadWriteSpec : ChangeSpec := { name := "fnReadWrite", fn := fun _ => fun
  | [d1, d2] => { results := [.lit (.bool true)], args := [d1, d2] }
  | _ => none }
def fnReadWriteRow : OpenClaim := { program := "ytagihhainhdhfaa", sum := "659b37391b2545a5435263a8f18bc6dec457a67d8bbc7fa1ae5ec39189d0cf48", func := "loop.example/separation/laws.FnReadWrite", spec := "fnReadWrite", apart := false }
def FnReadWriteSaid : Prop := fnReadWriteRow.holds Try.pinned (OpenSpec.ofChange fnReadWriteSpec)

/-- ITS FALSE NEIGHBOUR: 'it returns false'. Refute it at one input. -/
def fnReadWriteWrong : ChangeSpec := { name := "fnReadWrite", fn := fun _ => fun
  | [d1, d2] => { results := [.lit (.bool false)], args := [d1, d2] }
  | _ => none }
def FnReadWriteWrongFalsely : Prop := fnReadWriteRow.holds Try.pinned (OpenSpec.ofChange fnReadWriteWrong)

/-- 'laws.FnWalkParts': WHATEVER THE INPUT: true; the input reads as it did. -/
def fnWalkPartsSpec : ChangeSpec := { name := "fnWalkParts", fn := fun _ => fun
  | [d1, d2] => { results := [.lit (.bool true)], args := [d1, d2] }
  | _ => none }
def fnWalkPartsRow : OpenClaim := { program := "ytagihhainhdhfaa", sum := "659b37391b2545a5435263a8f18bc6dec457a67d8bbc7fa1ae5ec39189d0cf48", func := "loop.example/separation/laws.FnWalkParts", spec := "fnWalkParts", apart := false }
def FnWalkPartsSaid : Prop := fnWalkPartsRow.holds Try.pinned (OpenSpec.ofChange fnWalkPartsSpec)

/-- ITS FALSE NEIGHBOUR: 'it returns false'. Refute it at one input. -/
def fnWalkPartsWrong : ChangeSpec := { name := "fnWalkParts", fn := fun _ => fun
  | [d1, d2] => { results := [.lit (.bool false)], args := [d1, d2] }
  | _ => none }
def FnWalkPartsWrongFalsely : Prop := fnWalkPartsRow.holds Try.pinned (OpenSpec.ofChange fnWalkPartsWrong)

/-- 'laws.FnUsedCells': WHATEVER THE INPUT: true; the input reads as it did. -/
def fnUsedCellsSpec : ChangeSpec := { name := "fnUsedCells", fn := fun _ => fun
  | [d] => { results := [.lit (.bool true)], args := [d] }
  | _ => none }
def fnUsedCellsRow : OpenClaim := { program := "ytagihhainhdhfaa", sum := "659b37391b2545a5435263a8f18bc6dec457a67d8bbc7fa1ae5ec39189d0cf48", func := "loop.example/separation/laws.FnUsedCells", spec := "fnUsedCells", apart := false }
def FnUsedCellsSaid : Prop := fnUsedCellsRow.holds Try.pinned (OpenSpec.ofChange fnUsedCellsSpec)

/-- ITS FALSE NEIGHBOUR: 'it returns false'. Refute it at one input. -/
def fnUsedCellsWrong : ChangeSpec := { name := "fnUsedCells", fn := fun _ => fun
  | [d] => { results := [.lit (.bool false)], args := [d] }
  | _ => none }
def FnUsedCellsWrongFalsely : Prop := fnUsedCellsRow.holds Try.pinned (OpenSpec.ofChange fnUsedCellsWrong)

/-- 'laws.FnWriteCell': WHATEVER THE INPUT: true; the input reads as it did. -/
def fnWriteCellSpec : ChangeSpec := { name := "fnWriteCell", fn := fun _ => fun
  | [d] => { results := [.lit (.bool true)], args := [d] }
  | _ => none }
def fnWriteCellRow : OpenClaim := { program := "ytagihhainhdhfaa", sum := "659b37391b2545a5435263a8f18bc6dec457a67d8bbc7fa1ae5ec39189d0cf48", func := "loop.example/separation/laws.FnWriteCell", spec := "fnWriteCell", apart := false }
def FnWriteCellSaid : Prop := fnWriteCellRow.holds Try.pinned (OpenSpec.ofChange fnWriteCellSpec)

/-- ITS FALSE NEIGHBOUR: 'it returns false'. Refute it at one input. -/
def fnWriteCellWrong : ChangeSpec := { name := "fnWriteCell", fn := fun _ => fun
  | [d] => { results := [.lit (.bool false)], args := [d] }
  | _ => none }
def FnWriteCellWrongFalsely : Prop := fnWriteCellRow.holds Try.pinned (OpenSpec.ofChange fnWriteCellWrong)

/-- 'laws.FnWalkCells': WHATEVER THE INPUT: true; the input reads as it did. -/
def fnWalkCellsSpec : ChangeSpec := { name := "fnWalkCells", fn := fun _ => fun
  | [d] => { results := [.lit (.bool true)], args := [d] }
  | _ => none }
def fnWalkCellsRow : OpenClaim := { program := "ytagihhainhdhfaa", sum := "659b37391b2545a5435263a8f18bc6dec457a67d8bbc7fa1ae5ec39189d0cf48", func := "loop.example/separation/laws.FnWalkCells", spec := "fnWalkCells", apart := false }
def FnWalkCellsSaid : Prop := fnWalkCellsRow.holds Try.pinned (OpenSpec.ofChange fnWalkCellsSpec)

/-- ITS FALSE NEIGHBOUR: 'it returns false'. Refute it at one input. -/
def fnWalkCellsWrong : ChangeSpec := { name := "fnWalkCells", fn := fun _ => fun
  | [d] => { results := [.lit (.bool false)], args := [d] }
  | _ => none }
def FnWalkCellsWrongFalsely : Prop := fnWalkCellsRow.holds Try.pinned (OpenSpec.ofChange fnWalkCellsWrong)

/-- 'laws.FnAllocLeast': WHATEVER THE INPUT: true; the input reads as it did. -/
def fnAllocLeastSpec : ChangeSpec := { name := "fnAllocLeast", fn := fun _ => fun
  | [d] => { results := [.lit (.bool true)], args := [d] }
  | _ => none }
def fnAllocLeastRow : OpenClaim := { program := "ytagihhainhdhfaa", sum := "659b37391b2545a5435263a8f18bc6dec457a67d8bbc7fa1ae5ec39189d0cf48", func := "loop.example/separation/laws.FnAllocLeast", spec := "fnAllocLeast", apart := false }
def FnAllocLeastSaid : Prop := fnAllocLeastRow.holds Try.pinned (OpenSpec.ofChange fnAllocLeastSpec)

/-- ITS FALSE NEIGHBOUR: 'it returns false'. Refute it at one input. -/
def fnAllocLeastWrong : ChangeSpec := { name := "fnAllocLeast", fn := fun _ => fun
  | [d] => { results := [.lit (.bool false)], args := [d] }
  | _ => none }
def FnAllocLeastWrongFalsely : Prop := fnAllocLeastRow.holds Try.pinned (OpenSpec.ofChange fnAllocLeastWrong)

/-- 'laws.FnFreeCell': WHATEVER THE INPUT: true; the input reads as it did. -/
def fnFreeCellSpec : ChangeSpec := { name := "fnFreeCell", fn := fun _ => fun
  | [d] => { results := [.lit (.bool true)], args := [d] }
  | _ => none }
def fnFreeCellRow : OpenClaim := { program := "ytagihhainhdhfaa", sum := "659b37391b2545a5435263a8f18bc6dec457a67d8bbc7fa1ae5ec39189d0cf48", func := "loop.example/separation/laws.FnFreeCell", spec := "fnFreeCell", apart := false }
def FnFreeCellSaid : Prop := fnFreeCellRow.holds Try.pinned (OpenSpec.ofChange fnFreeCellSpec)

/-- ITS FALSE NEIGHBOUR: 'it returns false'. Refute it at one input. -/
def fnFreeCellWrong : ChangeSpec := { name := "fnFreeCell", fn := fun _ => fun
  | [d] => { results := [.lit (.bool false)], args := [d] }
  | _ => none }
def FnFreeCellWrongFalsely : Prop := fnFreeCellRow.holds Try.pinned (OpenSpec.ofChange fnFreeCellWrong)

/-- 'laws.FnAllocFree': WHATEVER THE INPUT: true; the input reads as it did. -/
def fnAllocFreeSpec : ChangeSpec := { name := "fnAllocFree", fn := fun _ => fun
  | [d] => { results := [.lit (.bool true)], args := [d] }
  | _ => none }
def fnAllocFreeRow : OpenClaim := { program := "ytagihhainhdhfaa", sum := "659b37391b2545a5435263a8f18bc6dec457a67d8bbc7fa1ae5ec39189d0cf48", func := "loop.example/separation/laws.FnAllocFree", spec := "fnAllocFree", apart := false }
def FnAllocFreeSaid : Prop := fnAllocFreeRow.holds Try.pinned (OpenSpec.ofChange fnAllocFreeSpec)

/-- ITS FALSE NEIGHBOUR: 'it returns false'. Refute it at one input. -/
def fnAllocFreeWrong : ChangeSpec := { name := "fnAllocFree", fn := fun _ => fun
  | [d] => { results := [.lit (.bool false)], args := [d] }
  | _ => none }
def FnAllocFreeWrongFalsely : Prop := fnAllocFreeRow.holds Try.pinned (OpenSpec.ofChange fnAllocFreeWrong)

/- THE SECOND FORM. 'bulk': how many values and letters a reading holds, each counted each time it is reached (what is shared counts as often as it is met; a slice's spare places count too). A statement '..UptoSaid' is the law's where the arguments, and the package variables that the reading takes, are together of bulk at most 1048576: NARROWER than '..Said'. Prove '..Said' where nothing that the law and all that it calls make is longer than what came in: it says more and counts as full. Else prove '..UptoSaid'. A law counts once. -/
mutual
def uptoBulk {H : Type} : DataW H → Nat
  | .lit (.string bytes) => bytes.length + 1
  | .lit _ => 1
  | .nil => 1
  | .ptr d => uptoBulk d + 1
  | .slice elems spare => uptoBulkAll elems + uptoBulkAll spare + 1
  | .agg parts => uptoBulkAll parts + 1
  | .iface _ d => uptoBulk d + 1
  | .map entries => uptoBulkEntries entries + 1
  | .held _ => 1
def uptoBulkAll {H : Type} : List (DataW H) → Nat
  | [] => 0
  | d :: r => uptoBulk d + uptoBulkAll r
def uptoBulkEntries {H : Type} : List (Lit × DataW H) → Nat
  | [] => 0
  | x :: r => uptoBulkEntry x + uptoBulkEntries r
def uptoBulkEntry {H : Type} : Lit × DataW H → Nat
  | (.string bytes, d) => bytes.length + uptoBulk d + 1
  | (_, d) => uptoBulk d + 1
 end
def uptoSmall : (H : Type) → List (DataW H) → Bool := fun _ ds => decide (uptoBulkAll ds ≤ 1048576)
def OpenSpec.upto (s : _root_.Go.ChangeSpec) : _root_.Go.OpenSpec := { _root_.Go.OpenSpec.ofChange s with cond := some uptoSmall }

/-- 'laws.FnSetTerm', WHERE WHAT IT READS IS OF BULK AT MOST 1048576: true; the input reads as it did. -/
def fnSetTermUptoRow : OpenClaim := { program := "ytagihhainhdhfaa", sum := "659b37391b2545a5435263a8f18bc6dec457a67d8bbc7fa1ae5ec39189d0cf48", func := "loop.example/separation/laws.FnSetTerm", spec := "fnSetTerm", apart := false, narrowed := true }
def FnSetTermUptoSaid : Prop := fnSetTermUptoRow.holds Try.pinned (OpenSpec.upto fnSetTermSpec)

/-- 'laws.FnReadWrite', WHERE WHAT IT READS IS OF BULK AT MOST 1048576: true; the input reads as it did. -/
def fnReadWriteUptoRow : OpenClaim := { program := "ytagihhainhdhfaa", sum := "659b37391b2545a5435263a8f18bc6dec457a67d8bbc7fa1ae5ec39189d0cf48", func := "loop.example/separation/laws.FnReadWrite", spec := "fnReadWrite", apart := false, narrowed := true }
def FnReadWriteUptoSaid : Prop := fnReadWriteUptoRow.holds Try.pinned (OpenSpec.upto fnReadWriteSpec)

/-- 'laws.FnWalkParts', WHERE WHAT IT READS IS OF BULK AT MOST 1048576: true; the input reads as it did. -/
def fnWalkPartsUptoRow : OpenClaim := { program := "ytagihhainhdhfaa", sum := "659b37391b2545a5435263a8f18bc6dec457a67d8bbc7fa1ae5ec39189d0cf48", func := "loop.example/separation/laws.FnWalkParts", spec := "fnWalkParts", apart := false, narrowed := true }
def FnWalkPartsUptoSaid : Prop := fnWalkPartsUptoRow.holds Try.pinned (OpenSpec.upto fnWalkPartsSpec)

/-- 'laws.FnUsedCells', WHERE WHAT IT READS IS OF BULK AT MOST 1048576: true; the input reads as it did. -/
def fnUsedCellsUptoRow : OpenClaim := { program := "ytagihhainhdhfaa", sum := "659b37391b2545a5435263a8f18bc6dec457a67d8bbc7fa1ae5ec39189d0cf48", func := "loop.example/separation/laws.FnUsedCells", spec := "fnUsedCells", apart := false, narrowed := true }
def FnUsedCellsUptoSaid : Prop := fnUsedCellsUptoRow.holds Try.pinned (OpenSpec.upto fnUsedCellsSpec)

/-- 'laws.FnWriteCell', WHERE WHAT IT READS IS OF BULK AT MOST 1048576: true; the input reads as it did. -/
def fnWriteCellUptoRow : OpenClaim := { program := "ytagihhainhdhfaa", sum := "659b37391b2545a5435263a8f18bc6dec457a67d8bbc7fa1ae5ec39189d0cf48", func := "loop.example/separation/laws.FnWriteCell", spec := "fnWriteCell", apart := false, narrowed := true }
def FnWriteCellUptoSaid : Prop := fnWriteCellUptoRow.holds Try.pinned (OpenSpec.upto fnWriteCellSpec)

/-- 'laws.FnWalkCells', WHERE WHAT IT READS IS OF BULK AT MOST 1048576: true; the input reads as it did. -/
def fnWalkCellsUptoRow : OpenClaim := { program := "ytagihhainhdhfaa", sum := "659b37391b2545a5435263a8f18bc6dec457a67d8bbc7fa1ae5ec39189d0cf48", func := "loop.example/separation/laws.FnWalkCells", spec := "fnWalkCells", apart := false, narrowed := true }
def FnWalkCellsUptoSaid : Prop := fnWalkCellsUptoRow.holds Try.pinned (OpenSpec.upto fnWalkCellsSpec)

/-- 'laws.FnAllocLeast', WHERE WHAT IT READS IS OF BULK AT MOST 1048576: true; the input reads as it did. -/
def fnAllocLeastUptoRow : OpenClaim := { program := "ytagihhainhdhfaa", sum := "659b37391b2545a5435263a8f18bc6dec457a67d8bbc7fa1ae5ec39189d0cf48", func := "loop.example/separation/laws.FnAllocLeast", spec := "fnAllocLeast", apart := false, narrowed := true }
def FnAllocLeastUptoSaid : Prop := fnAllocLeastUptoRow.holds Try.pinned (OpenSpec.upto fnAllocLeastSpec)

/-- 'laws.FnFreeCell', WHERE WHAT IT READS IS OF BULK AT MOST 1048576: true; the input reads as it did. -/
def fnFreeCellUptoRow : OpenClaim := { program := "ytagihhainhdhfaa", sum := "659b37391b2545a5435263a8f18bc6dec457a67d8bbc7fa1ae5ec39189d0cf48", func := "loop.example/separation/laws.FnFreeCell", spec := "fnFreeCell", apart := false, narrowed := true }
def FnFreeCellUptoSaid : Prop := fnFreeCellUptoRow.holds Try.pinned (OpenSpec.upto fnFreeCellSpec)

/-- 'laws.FnAllocFree', WHERE WHAT IT READS IS OF BULK AT MOST 1048576: true; the input reads as it did. -/
def fnAllocFreeUptoRow : OpenClaim := { program := "ytagihhainhdhfaa", sum := "659b37391b2545a5435263a8f18bc6dec457a67d8bbc7fa1ae5ec39189d0cf48", func := "loop.example/separation/laws.FnAllocFree", spec := "fnAllocFree", apart := false, narrowed := true }
def FnAllocFreeUptoSaid : Prop := fnAllocFreeUptoRow.holds Try.pinned (OpenSpec.upto fnAllocFreeSpec)

end Rows
end Go.Proofs.Ytagihhainhdhfaa
