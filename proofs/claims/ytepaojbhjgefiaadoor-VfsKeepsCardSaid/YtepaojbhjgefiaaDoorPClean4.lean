/- The document's Clean. -/
import Derived.Test.YtepaojbhjgefiaaDoorPClean3
namespace Go.Gx
open Go.Proofs Go.RowKit
set_option linter.unusedVariables false
set_option linter.unusedSimpArgs false
end Go.Gx
