/-
  The walk of ValsetPuts beside the opening of its arguments.
-/
import Derived.Test.YtkelepnipndbbaaValOpen
import Derived.Test.YtkelepnipndbbaaVal5
namespace Go.Proofs.Ytkelepnipndbbaa
end Go.Proofs.Ytkelepnipndbbaa
