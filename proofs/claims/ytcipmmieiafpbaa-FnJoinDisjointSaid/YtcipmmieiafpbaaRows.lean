/-
  No cell of these rows narrows 'for every input' (looked for: loops, veiled, ifaces, maps, wideKeys, modest, calm, conditions, laid).
  DERIVED. THE GIVEN ROWS OF THIS SEAT. 9 by the template 'for every input the law returns true; each argument reads behind the call as it read before'; 0 by the template 'total and deterministic' (their statements: YtcipmmieiafpbaaTotals.lean).
  GIVEN WITH THE SEED: the statements are not yours to turn. If you find one false, say at which input.
  Laid BY PROGRAM, IN A SANDBOX (cutbox-rows.mjs): the forced cells as the released guide's own fill.sh prints them over the translation fd3c9941dee47fce… (all of the seat's roots in one cut). By AI agents, Wed Nov 11 2026. No macro, syntax, notation, axiom, sorry.
-/
import Derived.Test.YtcipmmieiafpbaaChecked
import GoSem.Claim
import GoSem.ClaimJoined
import GoSem.ClaimMapViews
import Derived.JoinedTies
import Derived.KernelRfl
namespace Go.Proofs.Ytcipmmieiafpbaa
/- THE CELL 'sum', in the pinned program and in every row, IS THE sha256 OF THE DUMP (.gsa) THAT YtcipmmieiafpbaaProg.lean LOADS. Nothing in Lean hashes anything: it is a label: what it is worth is what the hold of that sum in a sandbox is worth. -/
noncomputable def Try.pinned : Pinned := { name := "ytcipmmieiafpbaa", sum := "fd3c9941dee47fce0493380689ab6f8f42ad78f5ef5df22c1918d670370c2158", checked := Try.checked }
namespace Rows
def none {H : Type} : Left H := { results := [], args := [] }

/-- 'laws.FnExactAtomCells': WHATEVER THE INPUT: true; the input reads as it did. -/
def fnExactAtomCellsSpec : ChangeSpec := { name := "fnExactAtomCells", fn := fun _ => fun
  | [d1, d2] => { results := [.lit (.bool true)], args := [d1, d2] }
  | _ => none }
def fnExactAtomCellsRow : OpenClaim := { program := "ytcipmmieiafpbaa", sum := "fd3c9941dee47fce0493380689ab6f8f42ad78f5ef5df22c1918d670370c2158", func := "loop.example/separation/laws.FnExactAtomCells", spec := "fnExactAtomCells", apart := false }
def FnExactAtomCellsSaid : Prop := fnExactAtomCellsRow.holds Try.pinned (OpenSpec.ofChange fnExactAtomCellsSpec)

/-- ITS FALSE NEIGHBOUR: 'it returns false'. Refute it at one input. -/
def fnExactAtomCellsWrong : ChangeSpec := { name := "fnExactAtomCells", fn := fun _ => fun
  | [d1, d2] => { results := [.lit (.bool false)], args := [d1, d2] }
  | _ => none }
def FnExactAtomCellsWrongFalsely : Prop := fnExactAtomCellsRow.holds Try.pinned (OpenSpec.ofChange fnExactAtomCellsWrong)

/-- 'laws.FnExactKeepCells': WHATEVER THE INPUT: true; the input reads as it did. -/
def fnExactKeepCellsSpec : ChangeSpec := { name := "fnExactKeepCells", fn := fun _ => fun
  | [d1, d2] => { results := [.lit (.bool true)], args := [d1, d2] }
  | _ => none }
def fnExactKeepCellsRow : OpenClaim := { program := "ytcipmmieiafpbaa", sum := "fd3c9941dee47fce0493380689ab6f8f42ad78f5ef5df22c1918d670370c2158", func := "loop.example/separation/laws.FnExactKeepCells", spec := "fnExactKeepCells", apart := false }
def FnExactKeepCellsSaid : Prop := fnExactKeepCellsRow.holds Try.pinned (OpenSpec.ofChange fnExactKeepCellsSpec)

/-- ITS FALSE NEIGHBOUR: 'it returns false'. Refute it at one input. -/
def fnExactKeepCellsWrong : ChangeSpec := { name := "fnExactKeepCells", fn := fun _ => fun
  | [d1, d2] => { results := [.lit (.bool false)], args := [d1, d2] }
  | _ => none }
def FnExactKeepCellsWrongFalsely : Prop := fnExactKeepCellsRow.holds Try.pinned (OpenSpec.ofChange fnExactKeepCellsWrong)

/-- 'laws.FnExactDropCells': WHATEVER THE INPUT: true; the input reads as it did. -/
def fnExactDropCellsSpec : ChangeSpec := { name := "fnExactDropCells", fn := fun _ => fun
  | [d1, d2] => { results := [.lit (.bool true)], args := [d1, d2] }
  | _ => none }
def fnExactDropCellsRow : OpenClaim := { program := "ytcipmmieiafpbaa", sum := "fd3c9941dee47fce0493380689ab6f8f42ad78f5ef5df22c1918d670370c2158", func := "loop.example/separation/laws.FnExactDropCells", spec := "fnExactDropCells", apart := false }
def FnExactDropCellsSaid : Prop := fnExactDropCellsRow.holds Try.pinned (OpenSpec.ofChange fnExactDropCellsSpec)

/-- ITS FALSE NEIGHBOUR: 'it returns false'. Refute it at one input. -/
def fnExactDropCellsWrong : ChangeSpec := { name := "fnExactDropCells", fn := fun _ => fun
  | [d1, d2] => { results := [.lit (.bool false)], args := [d1, d2] }
  | _ => none }
def FnExactDropCellsWrongFalsely : Prop := fnExactDropCellsRow.holds Try.pinned (OpenSpec.ofChange fnExactDropCellsWrong)

/-- 'laws.FnExactJoinStates': WHATEVER THE INPUT: true; the input reads as it did. -/
def fnExactJoinStatesSpec : ChangeSpec := { name := "fnExactJoinStates", fn := fun _ => fun
  | [d1, d2] => { results := [.lit (.bool true)], args := [d1, d2] }
  | _ => none }
def fnExactJoinStatesRow : OpenClaim := { program := "ytcipmmieiafpbaa", sum := "fd3c9941dee47fce0493380689ab6f8f42ad78f5ef5df22c1918d670370c2158", func := "loop.example/separation/laws.FnExactJoinStates", spec := "fnExactJoinStates", apart := false }
def FnExactJoinStatesSaid : Prop := fnExactJoinStatesRow.holds Try.pinned (OpenSpec.ofChange fnExactJoinStatesSpec)

/-- ITS FALSE NEIGHBOUR: 'it returns false'. Refute it at one input. -/
def fnExactJoinStatesWrong : ChangeSpec := { name := "fnExactJoinStates", fn := fun _ => fun
  | [d1, d2] => { results := [.lit (.bool false)], args := [d1, d2] }
  | _ => none }
def FnExactJoinStatesWrongFalsely : Prop := fnExactJoinStatesRow.holds Try.pinned (OpenSpec.ofChange fnExactJoinStatesWrong)

/-- 'laws.FnExactHolds': WHATEVER THE INPUT: true; the input reads as it did. -/
def fnExactHoldsSpec : ChangeSpec := { name := "fnExactHolds", fn := fun _ => fun
  | [d1, d2] => { results := [.lit (.bool true)], args := [d1, d2] }
  | _ => none }
def fnExactHoldsRow : OpenClaim := { program := "ytcipmmieiafpbaa", sum := "fd3c9941dee47fce0493380689ab6f8f42ad78f5ef5df22c1918d670370c2158", func := "loop.example/separation/laws.FnExactHolds", spec := "fnExactHolds", apart := false }
def FnExactHoldsSaid : Prop := fnExactHoldsRow.holds Try.pinned (OpenSpec.ofChange fnExactHoldsSpec)

/-- ITS FALSE NEIGHBOUR: 'it returns false'. Refute it at one input. -/
def fnExactHoldsWrong : ChangeSpec := { name := "fnExactHolds", fn := fun _ => fun
  | [d1, d2] => { results := [.lit (.bool false)], args := [d1, d2] }
  | _ => none }
def FnExactHoldsWrongFalsely : Prop := fnExactHoldsRow.holds Try.pinned (OpenSpec.ofChange fnExactHoldsWrong)

/-- 'laws.FnJoinStates': WHATEVER THE INPUT: true; the input reads as it did. -/
def fnJoinStatesSpec : ChangeSpec := { name := "fnJoinStates", fn := fun _ => fun
  | [d] => { results := [.lit (.bool true)], args := [d] }
  | _ => none }
def fnJoinStatesRow : OpenClaim := { program := "ytcipmmieiafpbaa", sum := "fd3c9941dee47fce0493380689ab6f8f42ad78f5ef5df22c1918d670370c2158", func := "loop.example/separation/laws.FnJoinStates", spec := "fnJoinStates", apart := false }
def FnJoinStatesSaid : Prop := fnJoinStatesRow.holds Try.pinned (OpenSpec.ofChange fnJoinStatesSpec)

/-- ITS FALSE NEIGHBOUR: 'it returns false'. Refute it at one input. -/
def fnJoinStatesWrong : ChangeSpec := { name := "fnJoinStates", fn := fun _ => fun
  | [d] => { results := [.lit (.bool false)], args := [d] }
  | _ => none }
def FnJoinStatesWrongFalsely : Prop := fnJoinStatesRow.holds Try.pinned (OpenSpec.ofChange fnJoinStatesWrong)

/-- 'laws.FnAtomCells': WHATEVER THE INPUT: true; the input reads as it did. -/
def fnAtomCellsSpec : ChangeSpec := { name := "fnAtomCells", fn := fun _ => fun
  | [d] => { results := [.lit (.bool true)], args := [d] }
  | _ => none }
def fnAtomCellsRow : OpenClaim := { program := "ytcipmmieiafpbaa", sum := "fd3c9941dee47fce0493380689ab6f8f42ad78f5ef5df22c1918d670370c2158", func := "loop.example/separation/laws.FnAtomCells", spec := "fnAtomCells", apart := false }
def FnAtomCellsSaid : Prop := fnAtomCellsRow.holds Try.pinned (OpenSpec.ofChange fnAtomCellsSpec)

/-- ITS FALSE NEIGHBOUR: 'it returns false'. Refute it at one input. -/
def fnAtomCellsWrong : ChangeSpec := { name := "fnAtomCells", fn := fun _ => fun
  | [d] => { results := [.lit (.bool false)], args := [d] }
  | _ => none }
def FnAtomCellsWrongFalsely : Prop := fnAtomCellsRow.holds Try.pinned (OpenSpec.ofChange fnAtomCellsWrong)

/-- 'laws.FnJoinDisjoint': WHATEVER THE INPUT: true; the input reads as it did. -/
def fnJoinDisjointSpec : ChangeSpec := { name := "fnJoinDisjoint", fn := fun _ => fun
  | [d] => { results := [.lit (.bool true)], args := [d] }
  | _ => none }
def fnJoinDisjointRow : OpenClaim := { program := "ytcipmmieiafpbaa", sum := "fd3c9941dee47fce0493380689ab6f8f42ad78f5ef5df22c1918d670370c2158", func := "loop.example/separation/laws.FnJoinDisjoint", spec := "fnJoinDisjoint", apart := false }
def FnJoinDisjointSaid : Prop := fnJoinDisjointRow.holds Try.pinned (OpenSpec.ofChange fnJoinDisjointSpec)

/-- ITS FALSE NEIGHBOUR: 'it returns false'. Refute it at one input. -/
def fnJoinDisjointWrong : ChangeSpec := { name := "fnJoinDisjoint", fn := fun _ => fun
  | [d] => { results := [.lit (.bool false)], args := [d] }
  | _ => none }
def FnJoinDisjointWrongFalsely : Prop := fnJoinDisjointRow.holds Try.pinned (OpenSpec.ofChange fnJoinDisjointWrong)

/-- 'laws.FnHoldsOrder': WHATEVER THE INPUT: true; the input reads as it did. -/
def fnHoldsOrderSpec : ChangeSpec := { name := "fnHoldsOrder", fn := fun _ => fun
  | [d1, d2] => { results := [.lit (.bool true)], args := [d1, d2] }
  | _ => none }
def fnHoldsOrderRow : OpenClaim := { program := "ytcipmmieiafpbaa", sum := "fd3c9941dee47fce0493380689ab6f8f42ad78f5ef5df22c1918d670370c2158", func := "loop.example/separation/laws.FnHoldsOrder", spec := "fnHoldsOrder", apart := false }
def FnHoldsOrderSaid : Prop := fnHoldsOrderRow.holds Try.pinned (OpenSpec.ofChange fnHoldsOrderSpec)

/-- ITS FALSE NEIGHBOUR: 'it returns false'. Refute it at one input. -/
def fnHoldsOrderWrong : ChangeSpec := { name := "fnHoldsOrder", fn := fun _ => fun
  | [d1, d2] => { results := [.lit (.bool false)], args := [d1, d2] }
  | _ => none }
def FnHoldsOrderWrongFalsely : Prop := fnHoldsOrderRow.holds Try.pinned (OpenSpec.ofChange fnHoldsOrderWrong)

/- THE SECOND FORM. 'bulk': how many values and letters a reading holds, each counted each time it is reached (what is shared counts as often as it is met; a slice's spare places count too). A statement '..UptoSaid' is the law's where the arguments, and the package variables that the reading takes, are together of bulk at most 1048576: NARROWER than '..Said'. Prove '..Said' where nothing that the law and all that it calls make is longer than what came in: it says more and counts as full. Else prove '..UptoSaid'. A law counts once. -/
mutual
def uptoBulk {H : Type} : DataW H → Nat
  | .lit (.string bytes) => bytes.length + 1
  | .lit _ => 1
  | .nil => 1
  | .ptr d => uptoBulk d + 1
  | .slice elems spare => uptoBulkAll elems + uptoBulkAll spare + 1
  | .agg parts => uptoBulkAll parts + 1
  | .iface _ d => uptoBulk d + 1
  | .map entries => uptoBulkEntries entries + 1
  | .held _ => 1
def uptoBulkAll {H : Type} : List (DataW H) → Nat
  | [] => 0
  | d :: r => uptoBulk d + uptoBulkAll r
def uptoBulkEntries {H : Type} : List (Lit × DataW H) → Nat
  | [] => 0
  | x :: r => uptoBulkEntry x + uptoBulkEntries r
def uptoBulkEntry {H : Type} : Lit × DataW H → Nat
  | (.string bytes, d) => bytes.length + uptoBulk d + 1
  | (_, d) => uptoBulk d + 1
 end
def uptoSmall : (H : Type) → List (DataW H) → Bool := fun _ ds => decide (uptoBulkAll ds ≤ 1048576)
def OpenSpec.upto (s : _root_.Go.ChangeSpec) : _root_.Go.OpenSpec := { _root_.Go.OpenSpec.ofChange s with cond := some uptoSmall }

/-- 'laws.FnExactAtomCells', WHERE WHAT IT READS IS OF BULK AT MOST 1048576: true; the input reads as it did. -/
def fnExactAtomCellsUptoRow : OpenClaim := { program := "ytcipmmieiafpbaa", sum := "fd3c9941dee47fce0493380689ab6f8f42ad78f5ef5df22c1918d670370c2158", func := "loop.example/separation/laws.FnExactAtomCells", spec := "fnExactAtomCells", apart := false, narrowed := true }
def FnExactAtomCellsUptoSaid : Prop := fnExactAtomCellsUptoRow.holds Try.pinned (OpenSpec.upto fnExactAtomCellsSpec)

/-- 'laws.FnExactKeepCells', WHERE WHAT IT READS IS OF BULK AT MOST 1048576: true; the input reads as it did. -/
def fnExactKeepCellsUptoRow : OpenClaim := { program := "ytcipmmieiafpbaa", sum := "fd3c9941dee47fce0493380689ab6f8f42ad78f5ef5df22c1918d670370c2158", func := "loop.example/separation/laws.FnExactKeepCells", spec := "fnExactKeepCells", apart := false, narrowed := true }
def FnExactKeepCellsUptoSaid : Prop := fnExactKeepCellsUptoRow.holds Try.pinned (OpenSpec.upto fnExactKeepCellsSpec)

/-- 'laws.FnExactDropCells', WHERE WHAT IT READS IS OF BULK AT MOST 1048576: true; the input reads as it did. -/
def fnExactDropCellsUptoRow : OpenClaim := { program := "ytcipmmieiafpbaa", sum := "fd3c9941dee47fce0493380689ab6f8f42ad78f5ef5df22c1918d670370c2158", func := "loop.example/separation/laws.FnExactDropCells", spec := "fnExactDropCells", apart := false, narrowed := true }
def FnExactDropCellsUptoSaid : Prop := fnExactDropCellsUptoRow.holds Try.pinned (OpenSpec.upto fnExactDropCellsSpec)

/-- 'laws.FnExactJoinStates', WHERE WHAT IT READS IS OF BULK AT MOST 1048576: true; the input reads as it did. -/
def fnExactJoinStatesUptoRow : OpenClaim := { program := "ytcipmmieiafpbaa", sum := "fd3c9941dee47fce0493380689ab6f8f42ad78f5ef5df22c1918d670370c2158", func := "loop.example/separation/laws.FnExactJoinStates", spec := "fnExactJoinStates", apart := false, narrowed := true }
def FnExactJoinStatesUptoSaid : Prop := fnExactJoinStatesUptoRow.holds Try.pinned (OpenSpec.upto fnExactJoinStatesSpec)

/-- 'laws.FnExactHolds', WHERE WHAT IT READS IS OF BULK AT MOST 1048576: true; the input reads as it did. -/
def fnExactHoldsUptoRow : OpenClaim := { program := "ytcipmmieiafpbaa", sum := "fd3c9941dee47fce0493380689ab6f8f42ad78f5ef5df22c1918d670370c2158", func := "loop.example/separation/laws.FnExactHolds", spec := "fnExactHolds", apart := false, narrowed := true }
def FnExactHoldsUptoSaid : Prop := fnExactHoldsUptoRow.holds Try.pinned (OpenSpec.upto fnExactHoldsSpec)

/-- 'laws.FnJoinStates', WHERE WHAT IT READS IS OF BULK AT MOST 1048576: true; the input reads as it did. -/
def fnJoinStatesUptoRow : OpenClaim := { program := "ytcipmmieiafpbaa", sum := "fd3c9941dee47fce0493380689ab6f8f42ad78f5ef5df22c1918d670370c2158", func := "loop.example/separation/laws.FnJoinStates", spec := "fnJoinStates", apart := false, narrowed := true }
def FnJoinStatesUptoSaid : Prop := fnJoinStatesUptoRow.holds Try.pinned (OpenSpec.upto fnJoinStatesSpec)

/-- 'laws.FnAtomCells', WHERE WHAT IT READS IS OF BULK AT MOST 1048576: true; the input reads as it did. -/
def fnAtomCellsUptoRow : OpenClaim := { program := "ytcipmmieiafpbaa", sum := "fd3c9941dee47fce0493380689ab6f8f42ad78f5ef5df22c1918d670370c2158", func := "loop.example/separation/laws.FnAtomCells", spec := "fnAtomCells", apart := false, narrowed := true }
def FnAtomCellsUptoSaid : Prop := fnAtomCellsUptoRow.holds Try.pinned (OpenSpec.upto fnAtomCellsSpec)

/-- 'laws.FnJoinDisjoint', WHERE WHAT IT READS IS OF BULK AT MOST 1048576: true; the input reads as it did. -/
def fnJoinDisjointUptoRow : OpenClaim := { program := "ytcipmmieiafpbaa", sum := "fd3c9941dee47fce0493380689ab6f8f42ad78f5ef5df22c1918d670370c2158", func := "loop.example/separation/laws.FnJoinDisjoint", spec := "fnJoinDisjoint", apart := false, narrowed := true }
def FnJoinDisjointUptoSaid : Prop := fnJoinDisjointUptoRow.holds Try.pinned (OpenSpec.upto fnJoinDisjointSpec)

/-- 'laws.FnHoldsOrder', WHERE WHAT IT READS IS OF BULK AT MOST 1048576: true; the input reads as it did. -/
def fnHoldsOrderUptoRow : OpenClaim := { program := "ytcipmmieiafpbaa", sum := "fd3c9941dee47fce0493380689ab6f8f42ad78f5ef5df22c1918d670370c2158", func := "loop.example/separation/laws.FnHoldsOrder", spec := "fnHoldsOrder", apart := false, narrowed := true }
def FnHoldsOrderUptoSaid : Prop := fnHoldsOrderUptoRow.holds Try.pinned (OpenSpec.upto fnHoldsOrderSpec)

end Rows
end Go.Proofs.Ytcipmmieiafpbaa
