-- The print's words, what of them is needed here (slimmed by a program of the worker's).
import Derived.Test.YtaahjfjpbilfnaaWTab
namespace Go.Proofs.YtaahjfjpbilfnaaW.PrintLast
end Go.Proofs.YtaahjfjpbilfnaaW.PrintLast
