/-
  FlogWrites' walk and the openers, for the row's proof.
-/
import Derived.Test.YtplgcfjcdjlnbaaKGT
namespace Go.Proofs.Ytplgcfjcdjlnbaa
end Go.Proofs.Ytplgcfjcdjlnbaa
