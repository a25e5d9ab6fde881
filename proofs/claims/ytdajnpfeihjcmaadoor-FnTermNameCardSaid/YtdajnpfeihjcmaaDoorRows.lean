/-
  NARROWER THAN 'FOR EVERY INPUT', by the rows' own cells (each row's printed sentence says how): FnExactTermName: laid · FnExactParseTerm: laid · FnExactFormatFact: laid · FnTermName: laid.
  DERIVED. THE GIVEN ROWS OF THIS SEAT. 4 by the template 'for every input the law returns true; each argument reads behind the call as it read before'; 0 by the template 'total and deterministic' (their statements: YtdajnpfeihjcmaaDoorTotals.lean).
  GIVEN WITH THE SEED: the statements are not yours to turn. If you find one false, say at which input.
  Laid BY PROGRAM, IN A SANDBOX (cutbox-rows.mjs): the forced cells as the released guide's own fill.sh prints them over the translation b0e58428e111f855… (all of the seat's roots in one cut). By AI agents, Wed Nov 11 2026. No macro, syntax, notation, axiom, sorry.
-/
import Derived.Test.YtdajnpfeihjcmaaDoorChecked
import GoSem.Claim
import GoSem.ClaimJoined
import GoSem.ClaimMapViews
import Derived.JoinedTies
import Derived.KernelRfl
namespace Go.Proofs.YtdajnpfeihjcmaaDoor
/- THE CELL 'sum', in the pinned program and in every row, IS THE sha256 OF THE DUMP (.gsa) THAT YtdajnpfeihjcmaaDoorProg.lean LOADS. Nothing in Lean hashes anything: it is a label: what it is worth is what the hold of that sum in a sandbox is worth. -/
noncomputable def Tryd.pinned : Pinned := { name := "ytdajnpfeihjcmaadoor", sum := "b0e58428e111f85570bd0fb78be9b467579847268097986c514840a94409e3eb", checked := Tryd.checked }
namespace Rows
def none {H : Type} : Left H := { results := [], args := [] }

/- WHAT THE LISTED PACKAGE-LEVEL VARIABLES READ AS WHEN THE CALL BEGINS. Each datum BY PROGRAM (the guide's laid-datum.mjs) off the statement by which the dump's own 'gosem.cut.vars' lays the variable. In a bare row this is a premise. The card (YtdajnpfeihjcmaaDoorCards.lean) ties it to the program's text. -/
def laid_loop_example_separation_impl_termNames {H : Type} : DataW H := .agg [.lit (.string [110, 105, 108]), .lit (.string [97]), .lit (.string [98]), .lit (.string [99]), .lit (.string [100]), .lit (.string [112]), .lit (.string [113]), .lit (.string [114]), .lit (.string [115])]

/-- 'laws.FnExactTermName': WHATEVER THE INPUT: true; the input reads as it did. -/
def fnExactTermNameSpec : ChangeSpec := { name := "fnExactTermName", vars := ["loop.example/separation/impl.termNames"], fn := fun _ => fun
  | [d, g1] => { results := [.lit (.bool true)], args := [d], vars := [g1] }
  | _ => none }
def fnExactTermNameRow : OpenClaim := { program := "ytdajnpfeihjcmaadoor", sum := "b0e58428e111f85570bd0fb78be9b467579847268097986c514840a94409e3eb", func := "loop.example/separation/laws.FnExactTermName", spec := "fnExactTermName", named := ["loop.example/separation/impl.termNames"], apart := false, laid := [("loop.example/separation/impl.termNames", laid_loop_example_separation_impl_termNames)] }
def FnExactTermNameSaid : Prop := fnExactTermNameRow.holds Tryd.pinned (OpenSpec.ofChange fnExactTermNameSpec)

/-- ITS FALSE NEIGHBOUR: 'it returns false'. Refute it at one input. -/
def fnExactTermNameWrong : ChangeSpec := { name := "fnExactTermName", vars := ["loop.example/separation/impl.termNames"], fn := fun _ => fun
  | [d, g1] => { results := [.lit (.bool false)], args := [d], vars := [g1] }
  | _ => none }
def FnExactTermNameWrongFalsely : Prop := fnExactTermNameRow.holds Tryd.pinned (OpenSpec.ofChange fnExactTermNameWrong)

/-- 'laws.FnExactParseTerm': WHATEVER THE INPUT: true; the input reads as it did. -/
def fnExactParseTermSpec : ChangeSpec := { name := "fnExactParseTerm", vars := ["loop.example/separation/impl.termNames"], fn := fun _ => fun
  | [d, g1] => { results := [.lit (.bool true)], args := [d], vars := [g1] }
  | _ => none }
def fnExactParseTermRow : OpenClaim := { program := "ytdajnpfeihjcmaadoor", sum := "b0e58428e111f85570bd0fb78be9b467579847268097986c514840a94409e3eb", func := "loop.example/separation/laws.FnExactParseTerm", spec := "fnExactParseTerm", named := ["loop.example/separation/impl.termNames"], apart := false, laid := [("loop.example/separation/impl.termNames", laid_loop_example_separation_impl_termNames)] }
def FnExactParseTermSaid : Prop := fnExactParseTermRow.holds Tryd.pinned (OpenSpec.ofChange fnExactParseTermSpec)

/-- ITS FALSE NEIGHBOUR: 'it returns false'. Refute it at one input. -/
def fnExactParseTermWrong : ChangeSpec := { name := "fnExactParseTerm", vars := ["loop.example/separation/impl.termNames"], fn := fun _ => fun
  | [d, g1] => { results := [.lit (.bool false)], args := [d], vars := [g1] }
  | _ => none }
def FnExactParseTermWrongFalsely : Prop := fnExactParseTermRow.holds Tryd.pinned (OpenSpec.ofChange fnExactParseTermWrong)

/-- 'laws.FnExactFormatFact': WHATEVER THE INPUT: true; the input reads as it did. -/
def fnExactFormatFactSpec : ChangeSpec := { name := "fnExactFormatFact", vars := ["loop.example/separation/impl.termNames"], fn := fun _ => fun
  | [d, g1] => { results := [.lit (.bool true)], args := [d], vars := [g1] }
  | _ => none }
def fnExactFormatFactRow : OpenClaim := { program := "ytdajnpfeihjcmaadoor", sum := "b0e58428e111f85570bd0fb78be9b467579847268097986c514840a94409e3eb", func := "loop.example/separation/laws.FnExactFormatFact", spec := "fnExactFormatFact", named := ["loop.example/separation/impl.termNames"], apart := false, laid := [("loop.example/separation/impl.termNames", laid_loop_example_separation_impl_termNames)] }
def FnExactFormatFactSaid : Prop := fnExactFormatFactRow.holds Tryd.pinned (OpenSpec.ofChange fnExactFormatFactSpec)

/-- ITS FALSE NEIGHBOUR: 'it returns false'. Refute it at one input. -/
def fnExactFormatFactWrong : ChangeSpec := { name := "fnExactFormatFact", vars := ["loop.example/separation/impl.termNames"], fn := fun _ => fun
  | [d, g1] => { results := [.lit (.bool false)], args := [d], vars := [g1] }
  | _ => none }
def FnExactFormatFactWrongFalsely : Prop := fnExactFormatFactRow.holds Tryd.pinned (OpenSpec.ofChange fnExactFormatFactWrong)

/-- 'laws.FnTermName': WHATEVER THE INPUT: true; the input reads as it did. -/
def fnTermNameSpec : ChangeSpec := { name := "fnTermName", vars := ["loop.example/separation/impl.termNames"], fn := fun _ => fun
  | [d1, d2, g1] => { results := [.lit (.bool true)], args := [d1, d2], vars := [g1] }
  | _ => none }
def fnTermNameRow : OpenClaim := { program := "ytdajnpfeihjcmaadoor", sum := "b0e58428e111f85570bd0fb78be9b467579847268097986c514840a94409e3eb", func := "loop.example/separation/laws.FnTermName", spec := "fnTermName", named := ["loop.example/separation/impl.termNames"], apart := false, laid := [("loop.example/separation/impl.termNames", laid_loop_example_separation_impl_termNames)] }
def FnTermNameSaid : Prop := fnTermNameRow.holds Tryd.pinned (OpenSpec.ofChange fnTermNameSpec)

/-- ITS FALSE NEIGHBOUR: 'it returns false'. Refute it at one input. -/
def fnTermNameWrong : ChangeSpec := { name := "fnTermName", vars := ["loop.example/separation/impl.termNames"], fn := fun _ => fun
  | [d1, d2, g1] => { results := [.lit (.bool false)], args := [d1, d2], vars := [g1] }
  | _ => none }
def FnTermNameWrongFalsely : Prop := fnTermNameRow.holds Tryd.pinned (OpenSpec.ofChange fnTermNameWrong)

/- THE SECOND FORM. 'bulk': how many values and letters a reading holds, each counted each time it is reached (what is shared counts as often as it is met; a slice's spare places count too). A statement '..UptoSaid' is the law's where the arguments, and the package variables that the reading takes, are together of bulk at most 1048576: NARROWER than '..Said'. Prove '..Said' where nothing that the law and all that it calls make is longer than what came in: it says more and counts as full. Else prove '..UptoSaid'. A law counts once. -/
mutual
def uptoBulk {H : Type} : DataW H → Nat
  | .lit (.string bytes) => bytes.length + 1
  | .lit _ => 1
  | .nil => 1
  | .ptr d => uptoBulk d + 1
  | .slice elems spare => uptoBulkAll elems + uptoBulkAll spare + 1
  | .agg parts => uptoBulkAll parts + 1
  | .iface _ d => uptoBulk d + 1
  | .map entries => uptoBulkEntries entries + 1
  | .held _ => 1
def uptoBulkAll {H : Type} : List (DataW H) → Nat
  | [] => 0
  | d :: r => uptoBulk d + uptoBulkAll r
def uptoBulkEntries {H : Type} : List (Lit × DataW H) → Nat
  | [] => 0
  | x :: r => uptoBulkEntry x + uptoBulkEntries r
def uptoBulkEntry {H : Type} : Lit × DataW H → Nat
  | (.string bytes, d) => bytes.length + uptoBulk d + 1
  | (_, d) => uptoBulk d + 1
 end
def uptoSmall : (H : Type) → List (DataW H) → Bool := fun _ ds => decide (uptoBulkAll ds ≤ 1048576)
def OpenSpec.upto (s : _root_.Go.ChangeSpec) : _root_.Go.OpenSpec := { _root_.Go.OpenSpec.ofChange s with cond := some uptoSmall }

/-- 'laws.FnExactTermName', WHERE WHAT IT READS IS OF BULK AT MOST 1048576: true; the input reads as it did. -/
def fnExactTermNameUptoRow : OpenClaim := { program := "ytdajnpfeihjcmaadoor", sum := "b0e58428e111f85570bd0fb78be9b467579847268097986c514840a94409e3eb", func := "loop.example/separation/laws.FnExactTermName", spec := "fnExactTermName", named := ["loop.example/separation/impl.termNames"], apart := false, laid := [("loop.example/separation/impl.termNames", laid_loop_example_separation_impl_termNames)], narrowed := true }
def FnExactTermNameUptoSaid : Prop := fnExactTermNameUptoRow.holds Tryd.pinned (OpenSpec.upto fnExactTermNameSpec)

/-- 'laws.FnExactParseTerm', WHERE WHAT IT READS IS OF BULK AT MOST 1048576: true; the input reads as it did. -/
def fnExactParseTermUptoRow : OpenClaim := { program := "ytdajnpfeihjcmaadoor", sum := "b0e58428e111f85570bd0fb78be9b467579847268097986c514840a94409e3eb", func := "loop.example/separation/laws.FnExactParseTerm", spec := "fnExactParseTerm", named := ["loop.example/separation/impl.termNames"], apart := false, laid := [("loop.example/separation/impl.termNames", laid_loop_example_separation_impl_termNames)], narrowed := true }
def FnExactParseTermUptoSaid : Prop := fnExactParseTermUptoRow.holds Tryd.pinned (OpenSpec.upto fnExactParseTermSpec)

/-- 'laws.FnExactFormatFact', WHERE WHAT IT READS IS OF BULK AT MOST 1048576: true; the input reads as it did. -/
def fnExactFormatFactUptoRow : OpenClaim := { program := "ytdajnpfeihjcmaadoor", sum := "b0e58428e111f85570bd0fb78be9b467579847268097986c514840a94409e3eb", func := "loop.example/separation/laws.FnExactFormatFact", spec := "fnExactFormatFact", named := ["loop.example/separation/impl.termNames"], apart := false, laid := [("loop.example/separation/impl.termNames", laid_loop_example_separation_impl_termNames)], narrowed := true }
def FnExactFormatFactUptoSaid : Prop := fnExactFormatFactUptoRow.holds Tryd.pinned (OpenSpec.upto fnExactFormatFactSpec)

/-- 'laws.FnTermName', WHERE WHAT IT READS IS OF BULK AT MOST 1048576: true; the input reads as it did. -/
def fnTermNameUptoRow : OpenClaim := { program := "ytdajnpfeihjcmaadoor", sum := "b0e58428e111f85570bd0fb78be9b467579847268097986c514840a94409e3eb", func := "loop.example/separation/laws.FnTermName", spec := "fnTermName", named := ["loop.example/separation/impl.termNames"], apart := false, laid := [("loop.example/separation/impl.termNames", laid_loop_example_separation_impl_termNames)], narrowed := true }
def FnTermNameUptoSaid : Prop := fnTermNameUptoRow.holds Tryd.pinned (OpenSpec.upto fnTermNameSpec)

end Rows
end Go.Proofs.YtdajnpfeihjcmaaDoor
