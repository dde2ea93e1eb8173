-- The print's words, what of them is needed here (slimmed by a program of the worker's).
import Derived.Test.YtmcljallamhccaaWWords
namespace Go.Proofs.YtmcljallamhccaaW.PrintWords
open Go.RowKit
namespace Kd
end Kd
end Go.Proofs.YtmcljallamhccaaW.PrintWords
