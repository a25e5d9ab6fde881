/-
  No cell of these rows narrows 'for every input' (looked for: loops, veiled, ifaces, maps, wideKeys, modest, calm, conditions, laid).
  DERIVED. THE GIVEN ROWS OF THIS SEAT. 12 by the template 'for every input the law returns true; each argument reads behind the call as it read before'; 0 by the template 'total and deterministic' (their statements: YtcpkmnlhenbnlaaTotals.lean).
  GIVEN WITH THE SEED: the statements are not yours to turn. If you find one false, say at which input.
  Laid BY PROGRAM, IN A SANDBOX (cutbox-rows.mjs): the forced cells as the released guide's own fill.sh prints them over the translation 330639ebe57b1149… (all of the seat's roots in one cut). By AI agents, Wed Nov 11 2026. No macro, syntax, notation, axiom, sorry.
-/
import Derived.Test.YtcpkmnlhenbnlaaChecked
import GoSem.Claim
import GoSem.ClaimJoined
import GoSem.ClaimMapViews
import Derived.JoinedTies
import Derived.KernelRfl
namespace Go.Proofs.Ytcpkmnlhenbnlaa
/- THE CELL 'sum', in the pinned program and in every row, IS THE sha256 OF THE DUMP (.gsa) THAT YtcpkmnlhenbnlaaProg.lean LOADS. Nothing in Lean hashes anything: it is a label: what it is worth is what the hold of that sum in a sandbox is worth. -/
noncomputable def Try.pinned : Pinned := { name := "ytcpkmnlhenbnlaa", sum := "330639ebe57b1149c6bc6ef5bafe6560148d5eb556b87a7baf46f6763ff1a629", checked := Try.checked }
namespace Rows
def none {H : Type} : Left H := { results := [], args := [] }

/-- 'laws.FnExactFactsValid': WHATEVER THE INPUT: true; the input reads as it did. -/
def fnExactFactsValidSpec : ChangeSpec := { name := "fnExactFactsValid", fn := fun _ => fun
  | [d] => { results := [.lit (.bool true)], args := [d] }
  | _ => none }
def fnExactFactsValidRow : OpenClaim := { program := "ytcpkmnlhenbnlaa", sum := "330639ebe57b1149c6bc6ef5bafe6560148d5eb556b87a7baf46f6763ff1a629", func := "loop.example/separation/laws.FnExactFactsValid", spec := "fnExactFactsValid", apart := false }
def FnExactFactsValidSaid : Prop := fnExactFactsValidRow.holds Try.pinned (OpenSpec.ofChange fnExactFactsValidSpec)

/-- ITS FALSE NEIGHBOUR: 'it returns false'. Refute it at one input. -/
def fnExactFactsValidWrong : ChangeSpec := { name := "fnExactFactsValid", fn := fun _ => fun
  | [d] => { results := [.lit (.bool false)], args := [d] }
  | _ => none }
def FnExactFactsValidWrongFalsely : Prop := fnExactFactsValidRow.holds Try.pinned (OpenSpec.ofChange fnExactFactsValidWrong)

/-- 'laws.FnExactFactsHold': WHATEVER THE INPUT: true; the input reads as it did. -/
def fnExactFactsHoldSpec : ChangeSpec := { name := "fnExactFactsHold", fn := fun _ => fun
  | [d1, d2] => { results := [.lit (.bool true)], args := [d1, d2] }
  | _ => none }
def fnExactFactsHoldRow : OpenClaim := { program := "ytcpkmnlhenbnlaa", sum := "330639ebe57b1149c6bc6ef5bafe6560148d5eb556b87a7baf46f6763ff1a629", func := "loop.example/separation/laws.FnExactFactsHold", spec := "fnExactFactsHold", apart := false }
def FnExactFactsHoldSaid : Prop := fnExactFactsHoldRow.holds Try.pinned (OpenSpec.ofChange fnExactFactsHoldSpec)

/-- ITS FALSE NEIGHBOUR: 'it returns false'. Refute it at one input. -/
def fnExactFactsHoldWrong : ChangeSpec := { name := "fnExactFactsHold", fn := fun _ => fun
  | [d1, d2] => { results := [.lit (.bool false)], args := [d1, d2] }
  | _ => none }
def FnExactFactsHoldWrongFalsely : Prop := fnExactFactsHoldRow.holds Try.pinned (OpenSpec.ofChange fnExactFactsHoldWrong)

/-- 'laws.FnExactFactsConsistent': WHATEVER THE INPUT: true; the input reads as it did. -/
def fnExactFactsConsistentSpec : ChangeSpec := { name := "fnExactFactsConsistent", fn := fun _ => fun
  | [d] => { results := [.lit (.bool true)], args := [d] }
  | _ => none }
def fnExactFactsConsistentRow : OpenClaim := { program := "ytcpkmnlhenbnlaa", sum := "330639ebe57b1149c6bc6ef5bafe6560148d5eb556b87a7baf46f6763ff1a629", func := "loop.example/separation/laws.FnExactFactsConsistent", spec := "fnExactFactsConsistent", apart := false }
def FnExactFactsConsistentSaid : Prop := fnExactFactsConsistentRow.holds Try.pinned (OpenSpec.ofChange fnExactFactsConsistentSpec)

/-- ITS FALSE NEIGHBOUR: 'it returns false'. Refute it at one input. -/
def fnExactFactsConsistentWrong : ChangeSpec := { name := "fnExactFactsConsistent", fn := fun _ => fun
  | [d] => { results := [.lit (.bool false)], args := [d] }
  | _ => none }
def FnExactFactsConsistentWrongFalsely : Prop := fnExactFactsConsistentRow.holds Try.pinned (OpenSpec.ofChange fnExactFactsConsistentWrong)

/-- 'laws.FnExactFactsImply': WHATEVER THE INPUT: true; the input reads as it did. -/
def fnExactFactsImplySpec : ChangeSpec := { name := "fnExactFactsImply", fn := fun _ => fun
  | [d1, d2] => { results := [.lit (.bool true)], args := [d1, d2] }
  | _ => none }
def fnExactFactsImplyRow : OpenClaim := { program := "ytcpkmnlhenbnlaa", sum := "330639ebe57b1149c6bc6ef5bafe6560148d5eb556b87a7baf46f6763ff1a629", func := "loop.example/separation/laws.FnExactFactsImply", spec := "fnExactFactsImply", apart := false }
def FnExactFactsImplySaid : Prop := fnExactFactsImplyRow.holds Try.pinned (OpenSpec.ofChange fnExactFactsImplySpec)

/-- ITS FALSE NEIGHBOUR: 'it returns false'. Refute it at one input. -/
def fnExactFactsImplyWrong : ChangeSpec := { name := "fnExactFactsImply", fn := fun _ => fun
  | [d1, d2] => { results := [.lit (.bool false)], args := [d1, d2] }
  | _ => none }
def FnExactFactsImplyWrongFalsely : Prop := fnExactFactsImplyRow.holds Try.pinned (OpenSpec.ofChange fnExactFactsImplyWrong)

/-- 'laws.FnExactTermClasses': WHATEVER THE INPUT: true; the input reads as it did. -/
def fnExactTermClassesSpec : ChangeSpec := { name := "fnExactTermClasses", fn := fun _ => fun
  | [d] => { results := [.lit (.bool true)], args := [d] }
  | _ => none }
def fnExactTermClassesRow : OpenClaim := { program := "ytcpkmnlhenbnlaa", sum := "330639ebe57b1149c6bc6ef5bafe6560148d5eb556b87a7baf46f6763ff1a629", func := "loop.example/separation/laws.FnExactTermClasses", spec := "fnExactTermClasses", apart := false }
def FnExactTermClassesSaid : Prop := fnExactTermClassesRow.holds Try.pinned (OpenSpec.ofChange fnExactTermClassesSpec)

/-- ITS FALSE NEIGHBOUR: 'it returns false'. Refute it at one input. -/
def fnExactTermClassesWrong : ChangeSpec := { name := "fnExactTermClasses", fn := fun _ => fun
  | [d] => { results := [.lit (.bool false)], args := [d] }
  | _ => none }
def FnExactTermClassesWrongFalsely : Prop := fnExactTermClassesRow.holds Try.pinned (OpenSpec.ofChange fnExactTermClassesWrong)

/-- 'laws.FnFactsSubset': WHATEVER THE INPUT: true; the input reads as it did. -/
def fnFactsSubsetSpec : ChangeSpec := { name := "fnFactsSubset", fn := fun _ => fun
  | [d1, d2] => { results := [.lit (.bool true)], args := [d1, d2] }
  | _ => none }
def fnFactsSubsetRow : OpenClaim := { program := "ytcpkmnlhenbnlaa", sum := "330639ebe57b1149c6bc6ef5bafe6560148d5eb556b87a7baf46f6763ff1a629", func := "loop.example/separation/laws.FnFactsSubset", spec := "fnFactsSubset", apart := false }
def FnFactsSubsetSaid : Prop := fnFactsSubsetRow.holds Try.pinned (OpenSpec.ofChange fnFactsSubsetSpec)

/-- ITS FALSE NEIGHBOUR: 'it returns false'. Refute it at one input. -/
def fnFactsSubsetWrong : ChangeSpec := { name := "fnFactsSubset", fn := fun _ => fun
  | [d1, d2] => { results := [.lit (.bool false)], args := [d1, d2] }
  | _ => none }
def FnFactsSubsetWrongFalsely : Prop := fnFactsSubsetRow.holds Try.pinned (OpenSpec.ofChange fnFactsSubsetWrong)

/-- 'laws.FnFactsMore': WHATEVER THE INPUT: true; the input reads as it did. -/
def fnFactsMoreSpec : ChangeSpec := { name := "fnFactsMore", fn := fun _ => fun
  | [d] => { results := [.lit (.bool true)], args := [d] }
  | _ => none }
def fnFactsMoreRow : OpenClaim := { program := "ytcpkmnlhenbnlaa", sum := "330639ebe57b1149c6bc6ef5bafe6560148d5eb556b87a7baf46f6763ff1a629", func := "loop.example/separation/laws.FnFactsMore", spec := "fnFactsMore", apart := false }
def FnFactsMoreSaid : Prop := fnFactsMoreRow.holds Try.pinned (OpenSpec.ofChange fnFactsMoreSpec)

/-- ITS FALSE NEIGHBOUR: 'it returns false'. Refute it at one input. -/
def fnFactsMoreWrong : ChangeSpec := { name := "fnFactsMore", fn := fun _ => fun
  | [d] => { results := [.lit (.bool false)], args := [d] }
  | _ => none }
def FnFactsMoreWrongFalsely : Prop := fnFactsMoreRow.holds Try.pinned (OpenSpec.ofChange fnFactsMoreWrong)

/-- 'laws.FnFactsOrder': WHATEVER THE INPUT: true; the input reads as it did. -/
def fnFactsOrderSpec : ChangeSpec := { name := "fnFactsOrder", fn := fun _ => fun
  | [d] => { results := [.lit (.bool true)], args := [d] }
  | _ => none }
def fnFactsOrderRow : OpenClaim := { program := "ytcpkmnlhenbnlaa", sum := "330639ebe57b1149c6bc6ef5bafe6560148d5eb556b87a7baf46f6763ff1a629", func := "loop.example/separation/laws.FnFactsOrder", spec := "fnFactsOrder", apart := false }
def FnFactsOrderSaid : Prop := fnFactsOrderRow.holds Try.pinned (OpenSpec.ofChange fnFactsOrderSpec)

/-- ITS FALSE NEIGHBOUR: 'it returns false'. Refute it at one input. -/
def fnFactsOrderWrong : ChangeSpec := { name := "fnFactsOrder", fn := fun _ => fun
  | [d] => { results := [.lit (.bool false)], args := [d] }
  | _ => none }
def FnFactsOrderWrongFalsely : Prop := fnFactsOrderRow.holds Try.pinned (OpenSpec.ofChange fnFactsOrderWrong)

/-- 'laws.FnFactsComplete': WHATEVER THE INPUT: true; the input reads as it did. -/
def fnFactsCompleteSpec : ChangeSpec := { name := "fnFactsComplete", fn := fun _ => fun
  | [d] => { results := [.lit (.bool true)], args := [d] }
  | _ => none }
def fnFactsCompleteRow : OpenClaim := { program := "ytcpkmnlhenbnlaa", sum := "330639ebe57b1149c6bc6ef5bafe6560148d5eb556b87a7baf46f6763ff1a629", func := "loop.example/separation/laws.FnFactsComplete", spec := "fnFactsComplete", apart := false }
def FnFactsCompleteSaid : Prop := fnFactsCompleteRow.holds Try.pinned (OpenSpec.ofChange fnFactsCompleteSpec)

/-- ITS FALSE NEIGHBOUR: 'it returns false'. Refute it at one input. -/
def fnFactsCompleteWrong : ChangeSpec := { name := "fnFactsComplete", fn := fun _ => fun
  | [d] => { results := [.lit (.bool false)], args := [d] }
  | _ => none }
def FnFactsCompleteWrongFalsely : Prop := fnFactsCompleteRow.holds Try.pinned (OpenSpec.ofChange fnFactsCompleteWrong)

/-- 'laws.FnTermClasses': WHATEVER THE INPUT: true; the input reads as it did. -/
def fnTermClassesSpec : ChangeSpec := { name := "fnTermClasses", fn := fun _ => fun
  | [d] => { results := [.lit (.bool true)], args := [d] }
  | _ => none }
def fnTermClassesRow : OpenClaim := { program := "ytcpkmnlhenbnlaa", sum := "330639ebe57b1149c6bc6ef5bafe6560148d5eb556b87a7baf46f6763ff1a629", func := "loop.example/separation/laws.FnTermClasses", spec := "fnTermClasses", apart := false }
def FnTermClassesSaid : Prop := fnTermClassesRow.holds Try.pinned (OpenSpec.ofChange fnTermClassesSpec)

/-- ITS FALSE NEIGHBOUR: 'it returns false'. Refute it at one input. -/
def fnTermClassesWrong : ChangeSpec := { name := "fnTermClasses", fn := fun _ => fun
  | [d] => { results := [.lit (.bool false)], args := [d] }
  | _ => none }
def FnTermClassesWrongFalsely : Prop := fnTermClassesRow.holds Try.pinned (OpenSpec.ofChange fnTermClassesWrong)

/-- 'laws.FnFactsImply': WHATEVER THE INPUT: true; the input reads as it did. -/
def fnFactsImplySpec : ChangeSpec := { name := "fnFactsImply", fn := fun _ => fun
  | [d1, d2] => { results := [.lit (.bool true)], args := [d1, d2] }
  | _ => none }
def fnFactsImplyRow : OpenClaim := { program := "ytcpkmnlhenbnlaa", sum := "330639ebe57b1149c6bc6ef5bafe6560148d5eb556b87a7baf46f6763ff1a629", func := "loop.example/separation/laws.FnFactsImply", spec := "fnFactsImply", apart := false }
def FnFactsImplySaid : Prop := fnFactsImplyRow.holds Try.pinned (OpenSpec.ofChange fnFactsImplySpec)

/-- ITS FALSE NEIGHBOUR: 'it returns false'. Refute it at one input. -/
def fnFactsImplyWrong : ChangeSpec := { name := "fnFactsImply", fn := fun _ => fun
  | [d1, d2] => { results := [.lit (.bool false)], args := [d1, d2] }
  | _ => none }
def FnFactsImplyWrongFalsely : Prop := fnFactsImplyRow.holds Try.pinned (OpenSpec.ofChange fnFactsImplyWrong)

/-- 'laws.FnFactsConsistent': WHATEVER THE INPUT: true; the input reads as it did. -/
def fnFactsConsistentSpec : ChangeSpec := { name := "fnFactsConsistent", fn := fun _ => fun
  | [d] => { results := [.lit (.bool true)], args := [d] }
  | _ => none }
def fnFactsConsistentRow : OpenClaim := { program := "ytcpkmnlhenbnlaa", sum := "330639ebe57b1149c6bc6ef5bafe6560148d5eb556b87a7baf46f6763ff1a629", func := "loop.example/separation/laws.FnFactsConsistent", spec := "fnFactsConsistent", apart := false }
def FnFactsConsistentSaid : Prop := fnFactsConsistentRow.holds Try.pinned (OpenSpec.ofChange fnFactsConsistentSpec)

/-- ITS FALSE NEIGHBOUR: 'it returns false'. Refute it at one input. -/
def fnFactsConsistentWrong : ChangeSpec := { name := "fnFactsConsistent", fn := fun _ => fun
  | [d] => { results := [.lit (.bool false)], args := [d] }
  | _ => none }
def FnFactsConsistentWrongFalsely : Prop := fnFactsConsistentRow.holds Try.pinned (OpenSpec.ofChange fnFactsConsistentWrong)

/- THE SECOND FORM. 'bulk': how many values and letters a reading holds, each counted each time it is reached (what is shared counts as often as it is met; a slice's spare places count too). A statement '..UptoSaid' is the law's where the arguments, and the package variables that the reading takes, are together of bulk at most 1048576: NARROWER than '..Said'. Prove '..Said' where nothing that the law and all that it calls make is longer than what came in: it says more and counts as full. Else prove '..UptoSaid'. A law counts once. -/
mutual
def uptoBulk {H : Type} : DataW H → Nat
  | .lit (.string bytes) => bytes.length + 1
  | .lit _ => 1
  | .nil => 1
  | .ptr d => uptoBulk d + 1
  | .slice elems spare => uptoBulkAll elems + uptoBulkAll spare + 1
  | .agg parts => uptoBulkAll parts + 1
  | .iface _ d => uptoBulk d + 1
  | .map entries => uptoBulkEntries entries + 1
  | .held _ => 1
def uptoBulkAll {H : Type} : List (DataW H) → Nat
  | [] => 0
  | d :: r => uptoBulk d + uptoBulkAll r
def uptoBulkEntries {H : Type} : List (Lit × DataW H) → Nat
  | [] => 0
  | x :: r => uptoBulkEntry x + uptoBulkEntries r
def uptoBulkEntry {H : Type} : Lit × DataW H → Nat
  | (.string bytes, d) => bytes.length + uptoBulk d + 1
  | (_, d) => uptoBulk d + 1
 end
def uptoSmall : (H : Type) → List (DataW H) → Bool := fun _ ds => decide (uptoBulkAll ds ≤ 1048576)
def OpenSpec.upto (s : _root_.Go.ChangeSpec) : _root_.Go.OpenSpec := { _root_.Go.OpenSpec.ofChange s with cond := some uptoSmall }

/-- 'laws.FnExactFactsValid', WHERE WHAT IT READS IS OF BULK AT MOST 1048576: true; the input reads as it did. -/
def fnExactFactsValidUptoRow : OpenClaim := { program := "ytcpkmnlhenbnlaa", sum := "330639ebe57b1149c6bc6ef5bafe6560148d5eb556b87a7baf46f6763ff1a629", func := "loop.example/separation/laws.FnExactFactsValid", spec := "fnExactFactsValid", apart := false, narrowed := true }
def FnExactFactsValidUptoSaid : Prop := fnExactFactsValidUptoRow.holds Try.pinned (OpenSpec.upto fnExactFactsValidSpec)

/-- 'laws.FnExactFactsHold', WHERE WHAT IT READS IS OF BULK AT MOST 1048576: true; the input reads as it did. -/
def fnExactFactsHoldUptoRow : OpenClaim := { program := "ytcpkmnlhenbnlaa", sum := "330639ebe57b1149c6bc6ef5bafe6560148d5eb556b87a7baf46f6763ff1a629", func := "loop.example/separation/laws.FnExactFactsHold", spec := "fnExactFactsHold", apart := false, narrowed := true }
def FnExactFactsHoldUptoSaid : Prop := fnExactFactsHoldUptoRow.holds Try.pinned (OpenSpec.upto fnExactFactsHoldSpec)

/-- 'laws.FnExactFactsConsistent', WHERE WHAT IT READS IS OF BULK AT MOST 1048576: true; the input reads as it did. -/
def fnExactFactsConsistentUptoRow : OpenClaim := { program := "ytcpkmnlhenbnlaa", sum := "330639ebe57b1149c6bc6ef5bafe6560148d5eb556b87a7baf46f6763ff1a629", func := "loop.example/separation/laws.FnExactFactsConsistent", spec := "fnExactFactsConsistent", apart := false, narrowed := true }
def FnExactFactsConsistentUptoSaid : Prop := fnExactFactsConsistentUptoRow.holds Try.pinned (OpenSpec.upto fnExactFactsConsistentSpec)

/-- 'laws.FnExactFactsImply', WHERE WHAT IT READS IS OF BULK AT MOST 1048576: true; the input reads as it did. -/
def fnExactFactsImplyUptoRow : OpenClaim := { program := "ytcpkmnlhenbnlaa", sum := "330639ebe57b1149c6bc6ef5bafe6560148d5eb556b87a7baf46f6763ff1a629", func := "loop.example/separation/laws.FnExactFactsImply", spec := "fnExactFactsImply", apart := false, narrowed := true }
def FnExactFactsImplyUptoSaid : Prop := fnExactFactsImplyUptoRow.holds Try.pinned (OpenSpec.upto fnExactFactsImplySpec)

/-- 'laws.FnExactTermClasses', WHERE WHAT IT READS IS OF BULK AT MOST 1048576: true; the input reads as it did. -/
def fnExactTermClassesUptoRow : OpenClaim := { program := "ytcpkmnlhenbnlaa", sum := "330639ebe57b1149c6bc6ef5bafe6560148d5eb556b87a7baf46f6763ff1a629", func := "loop.example/separation/laws.FnExactTermClasses", spec := "fnExactTermClasses", apart := false, narrowed := true }
def FnExactTermClassesUptoSaid : Prop := fnExactTermClassesUptoRow.holds Try.pinned (OpenSpec.upto fnExactTermClassesSpec)

/-- 'laws.FnFactsSubset', WHERE WHAT IT READS IS OF BULK AT MOST 1048576: true; the input reads as it did. -/
def fnFactsSubsetUptoRow : OpenClaim := { program := "ytcpkmnlhenbnlaa", sum := "330639ebe57b1149c6bc6ef5bafe6560148d5eb556b87a7baf46f6763ff1a629", func := "loop.example/separation/laws.FnFactsSubset", spec := "fnFactsSubset", apart := false, narrowed := true }
def FnFactsSubsetUptoSaid : Prop := fnFactsSubsetUptoRow.holds Try.pinned (OpenSpec.upto fnFactsSubsetSpec)

/-- 'laws.FnFactsMore', WHERE WHAT IT READS IS OF BULK AT MOST 1048576: true; the input reads as it did. -/
def fnFactsMoreUptoRow : OpenClaim := { program := "ytcpkmnlhenbnlaa", sum := "330639ebe57b1149c6bc6ef5bafe6560148d5eb556b87a7baf46f6763ff1a629", func := "loop.example/separation/laws.FnFactsMore", spec := "fnFactsMore", apart := false, narrowed := true }
def FnFactsMoreUptoSaid : Prop := fnFactsMoreUptoRow.holds Try.pinned (OpenSpec.upto fnFactsMoreSpec)

/-- 'laws.FnFactsOrder', WHERE WHAT IT READS IS OF BULK AT MOST 1048576: true; the input reads as it did. -/
def fnFactsOrderUptoRow : OpenClaim := { program := "ytcpkmnlhenbnlaa", sum := "330639ebe57b1149c6bc6ef5bafe6560148d5eb556b87a7baf46f6763ff1a629", func := "loop.example/separation/laws.FnFactsOrder", spec := "fnFactsOrder", apart := false, narrowed := true }
def FnFactsOrderUptoSaid : Prop := fnFactsOrderUptoRow.holds Try.pinned (OpenSpec.upto fnFactsOrderSpec)

/-- 'laws.FnFactsComplete', WHERE WHAT IT READS IS OF BULK AT MOST 1048576: true; the input reads as it did. -/
def fnFactsCompleteUptoRow : OpenClaim := { program := "ytcpkmnlhenbnlaa", sum := "330639ebe57b1149c6bc6ef5bafe6560148d5eb556b87a7baf46f6763ff1a629", func := "loop.example/separation/laws.FnFactsComplete", spec := "fnFactsComplete", apart := false, narrowed := true }
def FnFactsCompleteUptoSaid : Prop := fnFactsCompleteUptoRow.holds Try.pinned (OpenSpec.upto fnFactsCompleteSpec)

/-- 'laws.FnTermClasses', WHERE WHAT IT READS IS OF BULK AT MOST 1048576: true; the input reads as it did. -/
def fnTermClassesUptoRow : OpenClaim := { program := "ytcpkmnlhenbnlaa", sum := "330639ebe57b1149c6bc6ef5bafe6560148d5eb556b87a7baf46f6763ff1a629", func := "loop.example/separation/laws.FnTermClasses", spec := "fnTermClasses", apart := false, narrowed := true }
def FnTermClassesUptoSaid : Prop := fnTermClassesUptoRow.holds Try.pinned (OpenSpec.upto fnTermClassesSpec)

/-- 'laws.FnFactsImply', WHERE WHAT IT READS IS OF BULK AT MOST 1048576: true; the input reads as it did. -/
def fnFactsImplyUptoRow : OpenClaim := { program := "ytcpkmnlhenbnlaa", sum := "330639ebe57b1149c6bc6ef5bafe6560148d5eb556b87a7baf46f6763ff1a629", func := "loop.example/separation/laws.FnFactsImply", spec := "fnFactsImply", apart := false, narrowed := true }
def FnFactsImplyUptoSaid : Prop := fnFactsImplyUptoRow.holds Try.pinned (OpenSpec.upto fnFactsImplySpec)

/-- 'laws.FnFactsConsistent', WHERE WHAT IT READS IS OF BULK AT MOST 1048576: true; the input reads as it did. -/
def fnFactsConsistentUptoRow : OpenClaim := { program := "ytcpkmnlhenbnlaa", sum := "330639ebe57b1149c6bc6ef5bafe6560148d5eb556b87a7baf46f6763ff1a629", func := "loop.example/separation/laws.FnFactsConsistent", spec := "fnFactsConsistent", apart := false, narrowed := true }
def FnFactsConsistentUptoSaid : Prop := fnFactsConsistentUptoRow.holds Try.pinned (OpenSpec.upto fnFactsConsistentSpec)

end Rows
end Go.Proofs.Ytcpkmnlhenbnlaa
