-- The print's words, what of them is needed here (slimmed by a program of the worker's).
import Derived.Test.YtmcljallamhccaaWInv
import Derived.Test.YtmcljallamhccaaWFootNe
namespace Go.Proofs.YtmcljallamhccaaW.PrintWords
open Go.RowKit
end Go.Proofs.YtmcljallamhccaaW.PrintWords
namespace Go.Proofs.YtmcljallamhccaaW.PrintLast
end Go.Proofs.YtmcljallamhccaaW.PrintLast
