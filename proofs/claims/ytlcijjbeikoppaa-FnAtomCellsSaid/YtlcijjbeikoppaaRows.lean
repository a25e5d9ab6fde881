/-
  No cell of these rows narrows 'for every input' (looked for: loops, veiled, ifaces, maps, wideKeys, modest, calm, conditions, laid).
  DERIVED. THE GIVEN ROWS OF THIS SEAT. 4 by the template 'for every input the law returns true; each argument reads behind the call as it read before'; 0 by the template 'total and deterministic' (their statements: YtlcijjbeikoppaaTotals.lean).
  GIVEN WITH THE SEED: the statements are not yours to turn. If you find one false, say at which input.
  Laid BY PROGRAM, IN A SANDBOX (cutbox-rows.mjs): the forced cells as the released guide's own fill.sh prints them over the translation c979a7544168af8c… (all of the seat's roots in one cut). By AI agents, Wed Nov 11 2026. No macro, syntax, notation, axiom, sorry.
-/
import Derived.Test.YtlcijjbeikoppaaChecked
import GoSem.Claim
import GoSem.ClaimJoined
import GoSem.ClaimMapViews
import Derived.JoinedTies
import Derived.KernelRfl
namespace Go.Proofs.Ytlcijjbeikoppaa
/- THE CELL 'sum', in the pinned program and in every row, IS THE sha256 OF THE DUMP (.gsa) THAT YtlcijjbeikoppaaProg.lean LOADS. Nothing in Lean hashes anything: it is a label: what it is worth is what the hold of that sum in a sandbox is worth. -/
noncomputable def Try.pinned : Pinned := { name := "ytlcijjbeikoppaa", sum := "c979a7544168af8ce42627081028aedc8fd53ad0d1038a14de9be43e916b6137", checked := Try.checked }
namespace Rows
def none {H : Type} : Left H := { results := [], args := [] }

/-- 'laws.FnExactSubstAssertion': WHATEVER THE INPUT: true; the input reads as it did. -/
def fnExactSubstAssertionSpec : ChangeSpec := { name := "fnExactSubstAssertion", fn := fun _ => fun
  | [d1, d2, d3] => { results := [.lit (.bool true)], args := [d1, d2, d3] }
  | _ => none }
def fnExactSubstAssertionRow : OpenClaim := { program := "ytlcijjbeikoppaa", sum := "c979a7544168af8ce42627081028aedc8fd53ad0d1038a14de9be43e916b6137", func := "loop.example/separation/laws.FnExactSubstAssertion", spec := "fnExactSubstAssertion", apart := false }
def FnExactSubstAssertionSaid : Prop := fnExactSubstAssertionRow.holds Try.pinned (OpenSpec.ofChange fnExactSubstAssertionSpec)

/-- ITS FALSE NEIGHBOUR: 'it returns false'. Refute it at one input. -/
def fnExactSubstAssertionWrong : ChangeSpec := { name := "fnExactSubstAssertion", fn := fun _ => fun
  | [d1, d2, d3] => { results := [.lit (.bool false)], args := [d1, d2, d3] }
  | _ => none }
def FnExactSubstAssertionWrongFalsely : Prop := fnExactSubstAssertionRow.holds Try.pinned (OpenSpec.ofChange fnExactSubstAssertionWrong)

/-- 'laws.FnSubstCommute': WHATEVER THE INPUT: true; the input reads as it did. -/
def fnSubstCommuteSpec : ChangeSpec := { name := "fnSubstCommute", fn := fun _ => fun
  | [d1, d2] => { results := [.lit (.bool true)], args := [d1, d2] }
  | _ => none }
def fnSubstCommuteRow : OpenClaim := { program := "ytlcijjbeikoppaa", sum := "c979a7544168af8ce42627081028aedc8fd53ad0d1038a14de9be43e916b6137", func := "loop.example/separation/laws.FnSubstCommute", spec := "fnSubstCommute", apart := false }
def FnSubstCommuteSaid : Prop := fnSubstCommuteRow.holds Try.pinned (OpenSpec.ofChange fnSubstCommuteSpec)

/-- ITS FALSE NEIGHBOUR: 'it returns false'. Refute it at one input. -/
def fnSubstCommuteWrong : ChangeSpec := { name := "fnSubstCommute", fn := fun _ => fun
  | [d1, d2] => { results := [.lit (.bool false)], args := [d1, d2] }
  | _ => none }
def FnSubstCommuteWrongFalsely : Prop := fnSubstCommuteRow.holds Try.pinned (OpenSpec.ofChange fnSubstCommuteWrong)

/-- 'laws.FnAtomCells': WHATEVER THE INPUT: true; the input reads as it did. -/
def fnAtomCellsSpec : ChangeSpec := { name := "fnAtomCells", fn := fun _ => fun
  | [d] => { results := [.lit (.bool true)], args := [d] }
  | _ => none }
def fnAtomCellsRow : OpenClaim := { program := "ytlcijjbeikoppaa", sum := "c979a7544168af8ce42627081028aedc8fd53ad0d1038a14de9be43e916b6137", func := "loop.example/separation/laws.FnAtomCells", spec := "fnAtomCells", apart := false }
def FnAtomCellsSaid : Prop := fnAtomCellsRow.holds Try.pinned (OpenSpec.ofChange fnAtomCellsSpec)

/-- ITS FALSE NEIGHBOUR: 'it returns false'. Refute it at one input. -/
def fnAtomCellsWrong : ChangeSpec := { name := "fnAtomCells", fn := fun _ => fun
  | [d] => { results := [.lit (.bool false)], args := [d] }
  | _ => none }
def FnAtomCellsWrongFalsely : Prop := fnAtomCellsRow.holds Try.pinned (OpenSpec.ofChange fnAtomCellsWrong)

/-- 'laws.FnHoldsOrder': WHATEVER THE INPUT: true; the input reads as it did. -/
def fnHoldsOrderSpec : ChangeSpec := { name := "fnHoldsOrder", fn := fun _ => fun
  | [d1, d2] => { results := [.lit (.bool true)], args := [d1, d2] }
  | _ => none }
def fnHoldsOrderRow : OpenClaim := { program := "ytlcijjbeikoppaa", sum := "c979a7544168af8ce42627081028aedc8fd53ad0d1038a14de9be43e916b6137", func := "loop.example/separation/laws.FnHoldsOrder", spec := "fnHoldsOrder", apart := false }
def FnHoldsOrderSaid : Prop := fnHoldsOrderRow.holds Try.pinned (OpenSpec.ofChange fnHoldsOrderSpec)

/-- ITS FALSE NEIGHBOUR: 'it returns false'. Refute it at one input. -/
def fnHoldsOrderWrong : ChangeSpec := { name := "fnHoldsOrder", fn := fun _ => fun
  | [d1, d2] => { results := [.lit (.bool false)], args := [d1, d2] }
  | _ => none }
def FnHoldsOrderWrongFalsely : Prop := fnHoldsOrderRow.holds Try.pinned (OpenSpec.ofChange fnHoldsOrderWrong)

/- THE SECOND FORM. 'bulk': how many values and letters a reading holds, each counted each time it is reached (what is shared counts as often as it is met; a slice's spare places count too). A statement '..UptoSaid' is the law's where the arguments, and the package variables that the reading takes, are together of bulk at most 1048576: NARROWER than '..Said'. Prove '..Said' where nothing that the law and all that it calls make is longer than what came in: it says more and counts as full. Else prove '..UptoSaid'. A law counts once. -/
mutual
def uptoBulk {H : Type} : DataW H → Nat
  | .lit (.string bytes) => bytes.length + 1
  | .lit _ => 1
  | .nil => 1
  | .ptr d => uptoBulk d + 1
  | .slice elems spare => uptoBulkAll elems + uptoBulkAll spare + 1
  | .agg parts => uptoBulkAll parts + 1
  | .iface _ d => uptoBulk d + 1
  | .map entries => uptoBulkEntries entries + 1
  | .held _ => 1
def uptoBulkAll {H : Type} : List (DataW H) → Nat
  | [] => 0
  | d :: r => uptoBulk d + uptoBulkAll r
def uptoBulkEntries {H : Type} : List (Lit × DataW H) → Nat
  | [] => 0
  | x :: r => uptoBulkEntry x + uptoBulkEntries r
def uptoBulkEntry {H : Type} : Lit × DataW H → Nat
  | (.string bytes, d) => bytes.length + uptoBulk d + 1
  | (_, d) => uptoBulk d + 1
 end
def uptoSmall : (H : Type) → List (DataW H) → Bool := fun _ ds => decide (uptoBulkAll ds ≤ 1048576)
def OpenSpec.upto (s : _root_.Go.ChangeSpec) : _root_.Go.OpenSpec := { _root_.Go.OpenSpec.ofChange s with cond := some uptoSmall }

/-- 'laws.FnExactSubstAssertion', WHERE WHAT IT READS IS OF BULK AT MOST 1048576: true; the input reads as it did. -/
def fnExactSubstAssertionUptoRow : OpenClaim := { program := "ytlcijjbeikoppaa", sum := "c979a7544168af8ce42627081028aedc8fd53ad0d1038a14de9be43e916b6137", func := "loop.example/separation/laws.FnExactSubstAssertion", spec := "fnExactSubstAssertion", apart := false, narrowed := true }
def FnExactSubstAssertionUptoSaid : Prop := fnExactSubstAssertionUptoRow.holds Try.pinned (OpenSpec.upto fnExactSubstAssertionSpec)

/-- 'laws.FnSubstCommute', WHERE WHAT IT READS IS OF BULK AT MOST 1048576: true; the input reads as it did. -/
def fnSubstCommuteUptoRow : OpenClaim := { program := "ytlcijjbeikoppaa", sum := "c979a7544168af8ce42627081028aedc8fd53ad0d1038a14de9be43e916b6137", func := "loop.example/separation/laws.FnSubstCommute", spec := "fnSubstCommute", apart := false, narrowed := true }
def FnSubstCommuteUptoSaid : Prop := fnSubstCommuteUptoRow.holds Try.pinned (OpenSpec.upto fnSubstCommuteSpec)

/-- 'laws.FnAtomCells', WHERE WHAT IT READS IS OF BULK AT MOST 1048576: true; the input reads as it did. -/
def fnAtomCellsUptoRow : OpenClaim := { program := "ytlcijjbeikoppaa", sum := "c979a7544168af8ce42627081028aedc8fd53ad0d1038a14de9be43e916b6137", func := "loop.example/separation/laws.FnAtomCells", spec := "fnAtomCells", apart := false, narrowed := true }
def FnAtomCellsUptoSaid : Prop := fnAtomCellsUptoRow.holds Try.pinned (OpenSpec.upto fnAtomCellsSpec)

/-- 'laws.FnHoldsOrder', WHERE WHAT IT READS IS OF BULK AT MOST 1048576: true; the input reads as it did. -/
def fnHoldsOrderUptoRow : OpenClaim := { program := "ytlcijjbeikoppaa", sum := "c979a7544168af8ce42627081028aedc8fd53ad0d1038a14de9be43e916b6137", func := "loop.example/separation/laws.FnHoldsOrder", spec := "fnHoldsOrder", apart := false, narrowed := true }
def FnHoldsOrderUptoSaid : Prop := fnHoldsOrderUptoRow.holds Try.pinned (OpenSpec.upto fnHoldsOrderSpec)

end Rows
end Go.Proofs.Ytlcijjbeikoppaa
