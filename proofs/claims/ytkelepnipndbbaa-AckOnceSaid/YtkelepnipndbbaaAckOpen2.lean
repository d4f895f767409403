/-
  The walk of AckOnce beside the opening of its argument.
-/
import Derived.Test.YtkelepnipndbbaaAck13
import Derived.Test.YtkelepnipndbbaaAckOpen
