-- The print's words, what of them is needed here (slimmed by a program of the worker's).
import Derived.Test.YtaahjfjpbilfnaaWInv
import Derived.Test.YtaahjfjpbilfnaaWFootNe
namespace Go.Proofs.YtaahjfjpbilfnaaW.PrintWords
open Go.RowKit
end Go.Proofs.YtaahjfjpbilfnaaW.PrintWords
namespace Go.Proofs.YtaahjfjpbilfnaaW.PrintLast
end Go.Proofs.YtaahjfjpbilfnaaW.PrintLast
