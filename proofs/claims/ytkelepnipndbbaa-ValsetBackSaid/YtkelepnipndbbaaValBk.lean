/-
  The walk of ValsetBack beside the opening of its arguments.
-/
import Derived.Test.YtkelepnipndbbaaValOpen
import Derived.Test.YtkelepnipndbbaaVal9
namespace Go.Proofs.Ytkelepnipndbbaa
end Go.Proofs.Ytkelepnipndbbaa
