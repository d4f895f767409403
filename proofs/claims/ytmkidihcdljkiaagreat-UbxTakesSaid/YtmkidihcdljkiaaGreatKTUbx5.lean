/-
  slices.Clone of a message's rows; the five parts' copy, walked (printed by gen_ubx5.py).
-/
import Derived.Test.YtmkidihcdljkiaaGreatKTUbx2
import Derived.Test.YtmkidihcdljkiaaGreatKTUbx4
set_option linter.unusedSimpArgs false
set_option linter.unusedVariables false
namespace Go.Proofs.YtmkidihcdljkiaaGreat
open Go.RowKit NumLaw
attribute [local go_sem] Addr.add_mid

theorem ub_size (V : UbV) (a : UbA) (hp : V.p.length = 32) (hd : V.d.length = 8) : (Tryz.prog.info? 35).map (·.size) = some (ubL V a).toArray.size := by rw [List.size_toArray, ubL_len hp hd]; kernel_rfl
theorem ub_sizes {V V' : UbV} {a a' : UbA} (hp : V.p.length = 32) (hd : V.d.length = 8) (hp' : V'.p.length = 32) (hd' : V'.d.length = 8) : (ubL V a).toArray.size = (ubL V' a').toArray.size := by rw [List.size_toArray, List.size_toArray, ubL_len hp hd, ubL_len hp' hd']
theorem ub_one (V : UbV) (a : UbA) : (ubL V a).toArray.all (·.oneCell') = true := all_oneCell_toArray (ubL_one V a)
end Go.Proofs.YtmkidihcdljkiaaGreat
