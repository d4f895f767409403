/-
  Several texts in one: Sats5 Sats8.
-/
import Derived.Test.YtmkidihcdljkiaaGreatKPSats4
import Derived.Laws.StructEq
import Derived.Laws.Bits128
/-
  Used of layer 17 walked, the program's and the document's (printed by gen_sats5.py).
-/
set_option linter.unusedSimpArgs false
set_option linter.unusedVariables false
namespace Go.Proofs.YtmkidihcdljkiaaGreat
open Go.RowKit NumLaw
attribute [local go_sem] Addr.add_mid
attribute [-go_sem] run_eql_struct

theorem sat_held : Tryz.prog.stoodInHeld 99 = false := by kernel_rfl
end Go.Proofs.YtmkidihcdljkiaaGreat

/-
  sats.Take walked (printed by gen_sats8.py).
-/
set_option linter.unusedSimpArgs false
set_option linter.unusedVariables false
namespace Go.Proofs.YtmkidihcdljkiaaGreat
open Go.RowKit NumLaw
attribute [local go_sem] Addr.add_mid

theorem sat_info : (Tryz.prog.info? 99).map (fun i => (i.zero, i.size, i.bytes)) = some (some (.agg #[.int .i64 0, .int .i64 0, .int .i64 0, .int .i64 0, .int .i64 0, .int .i64 0, .int .i64 0]), 7, 56) := by kernel_rfl
end Go.Proofs.YtmkidihcdljkiaaGreat
