/- Contracts of the tests whether two assertions are the same, in the program. Conditions: the lengths are far from Go's bounds. Printed by wip/gen_as.py. -/
import Derived.Test.YtcipmmieiafpbaaAs
namespace Go.Proofs.Ytcipmmieiafpbaa
open Go.RowKit
set_option linter.unusedVariables false

end Go.Proofs.Ytcipmmieiafpbaa
