-- The print's words, what of them is needed here (slimmed by a program of the worker's).
import Derived.Test.YtaahjfjpbilfnaaWFootNe
namespace Go.Proofs.YtaahjfjpbilfnaaW.PrintWords
open Go.RowKit
namespace Kd
end Kd
end Go.Proofs.YtaahjfjpbilfnaaW.PrintWords
