/-
  The walk of SatsBack beside the opening of its arguments.
-/
import Derived.Test.YtkelepnipndbbaaSatsOpen
import Derived.Test.YtkelepnipndbbaaSats12
namespace Go.Proofs.Ytkelepnipndbbaa
end Go.Proofs.Ytkelepnipndbbaa
