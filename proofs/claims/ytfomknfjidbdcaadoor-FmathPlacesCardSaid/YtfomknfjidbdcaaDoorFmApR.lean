/-
  The walk of the reference's Apply. Printed by genfmapr.py.
-/
import Derived.Test.YtfomknfjidbdcaaDoorFmJoin
namespace Go.Proofs.YtfomknfjidbdcaaDoor
open Go.RowKit
end Go.Proofs.YtfomknfjidbdcaaDoor
