/-
  The walk of the reference's root of values, rounded down.
-/
import Derived.Test.YtfomknfjidbdcaaDoorFixSqrt
namespace Go.Proofs.YtfomknfjidbdcaaDoor
open Go.RowKit
end Go.Proofs.YtfomknfjidbdcaaDoor
