/- Contracts of reading values and cells of states, in the program and in the reference. Conditions: the lengths are far from Go's bounds. -/
import Derived.Test.YtifdefkkofngoaaDoorSt4
import Derived.Test.YtifdefkkofngoaaDoorFactC
import Derived.Test.YtifdefkkofngoaaDoorPlainAll
namespace Go.Proofs.YtifdefkkofngoaaDoor
open Go.RowKit
set_option linter.unusedVariables false

end Go.Proofs.YtifdefkkofngoaaDoor
