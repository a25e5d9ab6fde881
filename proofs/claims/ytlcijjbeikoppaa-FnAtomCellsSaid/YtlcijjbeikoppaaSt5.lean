/- Contracts of reading values and cells of states, in the program and in the reference. Conditions: the lengths are far from Go's bounds. -/
import Derived.Test.YtlcijjbeikoppaaSt4
import Derived.Test.YtlcijjbeikoppaaFactC
import Derived.Test.YtlcijjbeikoppaaPlainWays
namespace Go.Proofs.Ytlcijjbeikoppaa
open Go.RowKit
set_option linter.unusedVariables false

theorem termValue_n (A : Option Addr) (c : Nat) (vs : List Int) (t : Int) (w : World) (hA : Ints w A vs) (hn : vs.length = 8) (h0 : 0 ≤ t) (h8 : t ≤ 8) :
    Calls Try.prog 54 #[.slice A vs.length c, .int .i64 t] w fun e w' => e = .returned (.int .i64 (Pl.tval vs t)) ∧ w = w' := by
  rw [hn]; exact termValue_c A c vs t w hA hn h0 h8

theorem l1Value_n (A : Option Addr) (c : Nat) (vs : List Int) (t : Int) (w : World) (hA : Ints w A vs) (hn : vs.length = 8) (h0 : 0 ≤ t) (h8 : t ≤ 8) :
    Calls Try.prog 80 #[.slice A vs.length c, .int .i64 t] w fun e w' => e = .returned (.int .i64 (Pl.tval vs t)) ∧ w = w' := by
  rw [hn]; exact l1Value_c A c vs t w hA hn h0 h8

end Go.Proofs.Ytlcijjbeikoppaa
