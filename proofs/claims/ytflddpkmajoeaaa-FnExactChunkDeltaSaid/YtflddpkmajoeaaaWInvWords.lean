-- The print's words, what of them is needed here (slimmed by a program of the worker's).
import Derived.Test.YtflddpkmajoeaaaWInv
import Derived.Test.YtflddpkmajoeaaaWFootNe
namespace Go.Proofs.YtflddpkmajoeaaaW.PrintWords
open Go.RowKit
end Go.Proofs.YtflddpkmajoeaaaW.PrintWords
namespace Go.Proofs.YtflddpkmajoeaaaW.PrintLast
end Go.Proofs.YtflddpkmajoeaaaW.PrintLast
