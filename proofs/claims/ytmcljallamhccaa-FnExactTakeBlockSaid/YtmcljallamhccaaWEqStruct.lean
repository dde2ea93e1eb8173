-- The print's words, what of them is needed here (slimmed by a program of the worker's).
import Derived.Test.YtmcljallamhccaaWWords
import Derived.Laws.StructEq
namespace Go.Proofs.YtmcljallamhccaaW.PrintWords
open Go.RowKit
end Go.Proofs.YtmcljallamhccaaW.PrintWords
