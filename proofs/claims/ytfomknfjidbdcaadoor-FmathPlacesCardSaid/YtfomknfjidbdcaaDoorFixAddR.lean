/-
  The walk of the reference's sum of a row of values.
-/
import Derived.Test.YtfomknfjidbdcaaDoorFixAdd
namespace Go.Proofs.YtfomknfjidbdcaaDoor
open Go.RowKit
end Go.Proofs.YtfomknfjidbdcaaDoor
