/- The contract of joining two states in the program. Conditions: the lengths are far from Go's bounds. -/
import Derived.Test.YtcipmmieiafpbaaJn1
import Derived.Test.YtcipmmieiafpbaaJn2
namespace Go.Proofs.Ytcipmmieiafpbaa
open Go.RowKit
set_option linter.unusedVariables false

theorem JoinStates_c (A B A9 B9 : Option Addr) (c d c9 d9 : Nat) (s t : Pl.St) (w : World) (hS : Sts w A B s) (hT : Sts w A9 B9 t) (h1 : s.v.length ≤ 4194304) (h2 : s.h.length ≤ 4194304) (h3 : t.v.length ≤ 4194304) (h4 : t.h.length ≤ 4194304) :
    Calls Try.prog 29 #[sval A B c d s, sval A9 B9 c9 d9 t] w (RSt w (Pl.joinS s t)) := by
  cases h0 : Pl.joinOk s t with
  | false => exact JoinStates_no A B A9 B9 c d c9 d9 s t w hS hT h1 h2 h3 h4 h0
  | true => exact JoinStates_yes A B A9 B9 c d c9 d9 s t w hS hT h1 h2 h3 h4 h0

end Go.Proofs.Ytcipmmieiafpbaa
