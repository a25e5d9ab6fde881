/-
  No cell of these rows narrows 'for every input' (looked for: loops, veiled, ifaces, maps, wideKeys, modest, calm, conditions, laid).
  DERIVED. THE GIVEN ROWS OF THIS SEAT. 6 by the template 'for every input the law returns true; each argument reads behind the call as it read before'; 0 by the template 'total and deterministic' (their statements: YtljamkcapfdgcaaTotals.lean).
  GIVEN WITH THE SEED: the statements are not yours to turn. If you find one false, say at which input.
  Laid BY PROGRAM, IN A SANDBOX (cutbox-rows.mjs): the forced cells as the released guide's own fill.sh prints them over the translation 502e71dadb18db66… (all of the seat's roots in one cut). By AI agents, Wed Nov 11 2026. No macro, syntax, notation, axiom, sorry.
-/
import Derived.Test.YtljamkcapfdgcaaChecked
import GoSem.Claim
import GoSem.ClaimJoined
import GoSem.ClaimMapViews
import Derived.JoinedTies
import Derived.KernelRfl
namespace Go.Proofs.Ytljamkcapfdgcaa
/- THE CELL 'sum', in the pinned program and in every row, IS THE sha256 OF THE DUMP (.gsa) THAT YtljamkcapfdgcaaProg.lean LOADS. Nothing in Lean hashes anything: it is a label: what it is worth is what the hold of that sum in a sandbox is worth. -/
noncomputable def Try.pinned : Pinned := { name := "ytljamkcapfdgcaa", sum := "502e71dadb18db66197911d1faad07dd3dbc125f9a560a5d9323c5645ad57d89", checked := Try.checked }
namespace Rows
def none {H : Type} : Left H := { results := [], args := [] }

/-- 'laws.FnExactAssertionSame': WHATEVER THE INPUT: true; the input reads as it did. -/
def fnExactAssertionSameSpec : ChangeSpec := { name := "fnExactAssertionSame", fn := fun _ => fun
  | [d1, d2] => { results := [.lit (.bool true)], args := [d1, d2] }
  | _ => none }
def fnExactAssertionSameRow : OpenClaim := { program := "ytljamkcapfdgcaa", sum := "502e71dadb18db66197911d1faad07dd3dbc125f9a560a5d9323c5645ad57d89", func := "loop.example/separation/laws.FnExactAssertionSame", spec := "fnExactAssertionSame", apart := false }
def FnExactAssertionSameSaid : Prop := fnExactAssertionSameRow.holds Try.pinned (OpenSpec.ofChange fnExactAssertionSameSpec)

/-- ITS FALSE NEIGHBOUR: 'it returns false'. Refute it at one input. -/
def fnExactAssertionSameWrong : ChangeSpec := { name := "fnExactAssertionSame", fn := fun _ => fun
  | [d1, d2] => { results := [.lit (.bool false)], args := [d1, d2] }
  | _ => none }
def FnExactAssertionSameWrongFalsely : Prop := fnExactAssertionSameRow.holds Try.pinned (OpenSpec.ofChange fnExactAssertionSameWrong)

/-- 'laws.FnExactAssertionValid': WHATEVER THE INPUT: true; the input reads as it did. -/
def fnExactAssertionValidSpec : ChangeSpec := { name := "fnExactAssertionValid", fn := fun _ => fun
  | [d] => { results := [.lit (.bool true)], args := [d] }
  | _ => none }
def fnExactAssertionValidRow : OpenClaim := { program := "ytljamkcapfdgcaa", sum := "502e71dadb18db66197911d1faad07dd3dbc125f9a560a5d9323c5645ad57d89", func := "loop.example/separation/laws.FnExactAssertionValid", spec := "fnExactAssertionValid", apart := false }
def FnExactAssertionValidSaid : Prop := fnExactAssertionValidRow.holds Try.pinned (OpenSpec.ofChange fnExactAssertionValidSpec)

/-- ITS FALSE NEIGHBOUR: 'it returns false'. Refute it at one input. -/
def fnExactAssertionValidWrong : ChangeSpec := { name := "fnExactAssertionValid", fn := fun _ => fun
  | [d] => { results := [.lit (.bool false)], args := [d] }
  | _ => none }
def FnExactAssertionValidWrongFalsely : Prop := fnExactAssertionValidRow.holds Try.pinned (OpenSpec.ofChange fnExactAssertionValidWrong)

/-- 'laws.FnExactFreshTerm': WHATEVER THE INPUT: true; the input reads as it did. -/
def fnExactFreshTermSpec : ChangeSpec := { name := "fnExactFreshTerm", fn := fun _ => fun
  | [d] => { results := [.lit (.bool true)], args := [d] }
  | _ => none }
def fnExactFreshTermRow : OpenClaim := { program := "ytljamkcapfdgcaa", sum := "502e71dadb18db66197911d1faad07dd3dbc125f9a560a5d9323c5645ad57d89", func := "loop.example/separation/laws.FnExactFreshTerm", spec := "fnExactFreshTerm", apart := false }
def FnExactFreshTermSaid : Prop := fnExactFreshTermRow.holds Try.pinned (OpenSpec.ofChange fnExactFreshTermSpec)

/-- ITS FALSE NEIGHBOUR: 'it returns false'. Refute it at one input. -/
def fnExactFreshTermWrong : ChangeSpec := { name := "fnExactFreshTerm", fn := fun _ => fun
  | [d] => { results := [.lit (.bool false)], args := [d] }
  | _ => none }
def FnExactFreshTermWrongFalsely : Prop := fnExactFreshTermRow.holds Try.pinned (OpenSpec.ofChange fnExactFreshTermWrong)

/-- 'laws.FnExactStarAssertions': WHATEVER THE INPUT: true; the input reads as it did. -/
def fnExactStarAssertionsSpec : ChangeSpec := { name := "fnExactStarAssertions", fn := fun _ => fun
  | [d1, d2] => { results := [.lit (.bool true)], args := [d1, d2] }
  | _ => none }
def fnExactStarAssertionsRow : OpenClaim := { program := "ytljamkcapfdgcaa", sum := "502e71dadb18db66197911d1faad07dd3dbc125f9a560a5d9323c5645ad57d89", func := "loop.example/separation/laws.FnExactStarAssertions", spec := "fnExactStarAssertions", apart := false }
def FnExactStarAssertionsSaid : Prop := fnExactStarAssertionsRow.holds Try.pinned (OpenSpec.ofChange fnExactStarAssertionsSpec)

/-- ITS FALSE NEIGHBOUR: 'it returns false'. Refute it at one input. -/
def fnExactStarAssertionsWrong : ChangeSpec := { name := "fnExactStarAssertions", fn := fun _ => fun
  | [d1, d2] => { results := [.lit (.bool false)], args := [d1, d2] }
  | _ => none }
def FnExactStarAssertionsWrongFalsely : Prop := fnExactStarAssertionsRow.holds Try.pinned (OpenSpec.ofChange fnExactStarAssertionsWrong)

/-- 'laws.FnExactSubstAssertion': WHATEVER THE INPUT: true; the input reads as it did. -/
def fnExactSubstAssertionSpec : ChangeSpec := { name := "fnExactSubstAssertion", fn := fun _ => fun
  | [d1, d2, d3] => { results := [.lit (.bool true)], args := [d1, d2, d3] }
  | _ => none }
def fnExactSubstAssertionRow : OpenClaim := { program := "ytljamkcapfdgcaa", sum := "502e71dadb18db66197911d1faad07dd3dbc125f9a560a5d9323c5645ad57d89", func := "loop.example/separation/laws.FnExactSubstAssertion", spec := "fnExactSubstAssertion", apart := false }
def FnExactSubstAssertionSaid : Prop := fnExactSubstAssertionRow.holds Try.pinned (OpenSpec.ofChange fnExactSubstAssertionSpec)

/-- ITS FALSE NEIGHBOUR: 'it returns false'. Refute it at one input. -/
def fnExactSubstAssertionWrong : ChangeSpec := { name := "fnExactSubstAssertion", fn := fun _ => fun
  | [d1, d2, d3] => { results := [.lit (.bool false)], args := [d1, d2, d3] }
  | _ => none }
def FnExactSubstAssertionWrongFalsely : Prop := fnExactSubstAssertionRow.holds Try.pinned (OpenSpec.ofChange fnExactSubstAssertionWrong)

/-- 'laws.FnSubstCommute': WHATEVER THE INPUT: true; the input reads as it did. -/
def fnSubstCommuteSpec : ChangeSpec := { name := "fnSubstCommute", fn := fun _ => fun
  | [d1, d2] => { results := [.lit (.bool true)], args := [d1, d2] }
  | _ => none }
def fnSubstCommuteRow : OpenClaim := { program := "ytljamkcapfdgcaa", sum := "502e71dadb18db66197911d1faad07dd3dbc125f9a560a5d9323c5645ad57d89", func := "loop.example/separation/laws.FnSubstCommute", spec := "fnSubstCommute", apart := false }
def FnSubstCommuteSaid : Prop := fnSubstCommuteRow.holds Try.pinned (OpenSpec.ofChange fnSubstCommuteSpec)

/-- ITS FALSE NEIGHBOUR: 'it returns false'. Refute it at one input. -/
def fnSubstCommuteWrong : ChangeSpec := { name := "fnSubstCommute", fn := fun _ => fun
  | [d1, d2] => { results := [.lit (.bool false)], args := [d1, d2] }
  | _ => none }
def FnSubstCommuteWrongFalsely : Prop := fnSubstCommuteRow.holds Try.pinned (OpenSpec.ofChange fnSubstCommuteWrong)

/- THE SECOND FORM. 'bulk': how many values and letters a reading holds, each counted each time it is reached (what is shared counts as often as it is met; a slice's spare places count too). A statement '..UptoSaid' is the law's where the arguments, and the package variables that the reading takes, are together of bulk at most 1048576: NARROWER than '..Said'. Prove '..Said' where nothing that the law and all that it calls make is longer than what came in: it says more and counts as full. Else prove '..UptoSaid'. A law counts once. -/
mutual
def uptoBulk {H : Type} : DataW H → Nat
  | .lit (.string bytes) => bytes.length + 1
  | .lit _ => 1
  | .nil => 1
  | .ptr d => uptoBulk d + 1
  | .slice elems spare => uptoBulkAll elems + uptoBulkAll spare + 1
  | .agg parts => uptoBulkAll parts + 1
  | .iface _ d => uptoBulk d + 1
  | .map entries => uptoBulkEntries entries + 1
  | .held _ => 1
def uptoBulkAll {H : Type} : List (DataW H) → Nat
  | [] => 0
  | d :: r => uptoBulk d + uptoBulkAll r
def uptoBulkEntries {H : Type} : List (Lit × DataW H) → Nat
  | [] => 0
  | x :: r => uptoBulkEntry x + uptoBulkEntries r
def uptoBulkEntry {H : Type} : Lit × DataW H → Nat
  | (.string bytes, d) => bytes.length + uptoBulk d + 1
  | (_, d) => uptoBulk d + 1
 end
def uptoSmall : (H : Type) → List (DataW H) → Bool := fun _ ds => decide (uptoBulkAll ds ≤ 1048576)
def OpenSpec.upto (s : _root_.Go.ChangeSpec) : _root_.Go.OpenSpec := { _root_.Go.OpenSpec.ofChange s with cond := some uptoSmall }

/-- 'laws.FnExactAssertionSame', WHERE WHAT IT READS IS OF BULK AT MOST 1048576: true; the input reads as it did. -/
def fnExactAssertionSameUptoRow : OpenClaim := { program := "ytljamkcapfdgcaa", sum := "502e71dadb18db66197911d1faad07dd3dbc125f9a560a5d9323c5645ad57d89", func := "loop.example/separation/laws.FnExactAssertionSame", spec := "fnExactAssertionSame", apart := false, narrowed := true }
def FnExactAssertionSameUptoSaid : Prop := fnExactAssertionSameUptoRow.holds Try.pinned (OpenSpec.upto fnExactAssertionSameSpec)

/-- 'laws.FnExactAssertionValid', WHERE WHAT IT READS IS OF BULK AT MOST 1048576: true; the input reads as it did. -/
def fnExactAssertionValidUptoRow : OpenClaim := { program := "ytljamkcapfdgcaa", sum := "502e71dadb18db66197911d1faad07dd3dbc125f9a560a5d9323c5645ad57d89", func := "loop.example/separation/laws.FnExactAssertionValid", spec := "fnExactAssertionValid", apart := false, narrowed := true }
def FnExactAssertionValidUptoSaid : Prop := fnExactAssertionValidUptoRow.holds Try.pinned (OpenSpec.upto fnExactAssertionValidSpec)

/-- 'laws.FnExactFreshTerm', WHERE WHAT IT READS IS OF BULK AT MOST 1048576: true; the input reads as it did. -/
def fnExactFreshTermUptoRow : OpenClaim := { program := "ytljamkcapfdgcaa", sum := "502e71dadb18db66197911d1faad07dd3dbc125f9a560a5d9323c5645ad57d89", func := "loop.example/separation/laws.FnExactFreshTerm", spec := "fnExactFreshTerm", apart := false, narrowed := true }
def FnExactFreshTermUptoSaid : Prop := fnExactFreshTermUptoRow.holds Try.pinned (OpenSpec.upto fnExactFreshTermSpec)

/-- 'laws.FnExactStarAssertions', WHERE WHAT IT READS IS OF BULK AT MOST 1048576: true; the input reads as it did. -/
def fnExactStarAssertionsUptoRow : OpenClaim := { program := "ytljamkcapfdgcaa", sum := "502e71dadb18db66197911d1faad07dd3dbc125f9a560a5d9323c5645ad57d89", func := "loop.example/separation/laws.FnExactStarAssertions", spec := "fnExactStarAssertions", apart := false, narrowed := true }
def FnExactStarAssertionsUptoSaid : Prop := fnExactStarAssertionsUptoRow.holds Try.pinned (OpenSpec.upto fnExactStarAssertionsSpec)

/-- 'laws.FnExactSubstAssertion', WHERE WHAT IT READS IS OF BULK AT MOST 1048576: true; the input reads as it did. -/
def fnExactSubstAssertionUptoRow : OpenClaim := { program := "ytljamkcapfdgcaa", sum := "502e71dadb18db66197911d1faad07dd3dbc125f9a560a5d9323c5645ad57d89", func := "loop.example/separation/laws.FnExactSubstAssertion", spec := "fnExactSubstAssertion", apart := false, narrowed := true }
def FnExactSubstAssertionUptoSaid : Prop := fnExactSubstAssertionUptoRow.holds Try.pinned (OpenSpec.upto fnExactSubstAssertionSpec)

/-- 'laws.FnSubstCommute', WHERE WHAT IT READS IS OF BULK AT MOST 1048576: true; the input reads as it did. -/
def fnSubstCommuteUptoRow : OpenClaim := { program := "ytljamkcapfdgcaa", sum := "502e71dadb18db66197911d1faad07dd3dbc125f9a560a5d9323c5645ad57d89", func := "loop.example/separation/laws.FnSubstCommute", spec := "fnSubstCommute", apart := false, narrowed := true }
def FnSubstCommuteUptoSaid : Prop := fnSubstCommuteUptoRow.holds Try.pinned (OpenSpec.upto fnSubstCommuteSpec)

end Rows
end Go.Proofs.Ytljamkcapfdgcaa
