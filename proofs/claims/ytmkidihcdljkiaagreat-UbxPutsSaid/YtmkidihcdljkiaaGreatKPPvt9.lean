/-
  pvt.Of walked, whole; the document's Of.
-/
import Derived.Test.YtmkidihcdljkiaaGreatKPGV
import Derived.Laws.Rows
set_option linter.unusedSimpArgs false
set_option linter.unusedVariables false
namespace Go.Proofs.YtmkidihcdljkiaaGreat
open Go.RowKit NumLaw
attribute [local go_sem] Addr.add_mid

def pz : List Int := List.replicate 32 0
theorem pvt_size : (Tryz.prog.info? 23).map (·.size) = some 32 := by kernel_rfl
end Go.Proofs.YtmkidihcdljkiaaGreat
