-- The print's words, what of them is needed here (slimmed by a program of the worker's).
import Derived.Test.YtflddpkmajoeaaaWTab
namespace Go.Proofs.YtflddpkmajoeaaaW.PrintLast
end Go.Proofs.YtflddpkmajoeaaaW.PrintLast
