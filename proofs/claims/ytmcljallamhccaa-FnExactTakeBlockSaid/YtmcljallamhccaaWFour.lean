-- The print's words, what of them is needed here (slimmed by a program of the worker's).
import Derived.Test.YtmcljallamhccaaWTab
namespace Go.Proofs.YtmcljallamhccaaW.PrintLast
end Go.Proofs.YtmcljallamhccaaW.PrintLast
