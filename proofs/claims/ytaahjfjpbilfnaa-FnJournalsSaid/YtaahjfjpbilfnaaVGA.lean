/- The laws' helpers on what was put, turned from those on blocks. -/
import Derived.Test.YtaahjfjpbilfnaaVC6
namespace Go.Proofs.Ytaahjfjpbilfnaa.V
open Go
set_option linter.unusedVariables false
set_option linter.unusedSimpArgs false
set_option maxRecDepth 100000
end Go.Proofs.Ytaahjfjpbilfnaa.V
