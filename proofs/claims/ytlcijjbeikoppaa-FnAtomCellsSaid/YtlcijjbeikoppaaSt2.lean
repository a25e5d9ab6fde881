/- Contracts of the tests of states: validity and equality, in the program and in the reference; of the laws' own sizes and marks of states; of copies. Conditions: the lengths are far from Go's bounds. -/
import Derived.Test.YtlcijjbeikoppaaSt
namespace Go.Proofs.Ytlcijjbeikoppaa
open Go.RowKit
set_option linter.unusedVariables false

end Go.Proofs.Ytlcijjbeikoppaa
