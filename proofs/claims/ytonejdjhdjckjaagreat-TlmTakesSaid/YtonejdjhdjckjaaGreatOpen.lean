/-
  How arguments that came in are opened for the walks: a slice of bytes or of integers that reads as a list, an unsigned number.
-/
import Derived.Test.YtonejdjhdjckjaaGreatBase
import Derived.ProofKit
import Derived.OpenShut
import Derived.ShutString
import Derived.ChangeOld
import Derived.Deep.Slices
import Derived.Deep.Fields
set_option linter.unusedSimpArgs false
set_option linter.unusedVariables false
namespace Go.Proofs.YtonejdjhdjckjaaGreat
open Go.ChangeShapes Go.WideShapes Go.ChangeAt Go.RowKit

theorem Tryz.own : ownKnob Tryz.prog.godebug = none := by kernel_rfl
theorem Tryz.laidOut : laidOutB Tryz.prog = true := by kernel_rfl

theorem wf_u8 {a : Int} (h : (Lit.int .u8 a).wf = true) : ∃ n : Nat, a = n ∧ n < 256 := by
  have := bounds_u8 h; exact ⟨a.toNat, by omega, by omega⟩
theorem wf_u16 {a : Int} (h : (Lit.int .u16 a).wf = true) : ∃ n : Nat, a = n ∧ n < 65536 := by
  have := bounds_u16 h; exact ⟨a.toNat, by omega, by omega⟩
theorem wf_u32 {a : Int} (h : (Lit.int .u32 a).wf = true) : ∃ n : Nat, a = n ∧ n < 4294967296 := by
  have := bounds_u32 h; exact ⟨a.toNat, by omega, by omega⟩
theorem wf_u64 {a : Int} (h : (Lit.int .u64 a).wf = true) : ∃ n : Nat, a = n ∧ n < 18446744073709551616 := by
  have := bounds_u64 h; exact ⟨a.toNat, by omega, by omega⟩

section
variable {H : Type} {enc : TypeId × Value → H} {P : Program} {W : World}
/-- A slice of integers: its numbers, each fitting its kind. -/
theorem open_nums {k : IntKind} {t e : TypeId} {b0 : Nat} {v : Value} {d : DataW H} {p : List MemPlace} (ht : P.underlying t = some (.slice e)) (he : P.underlying e = some (.int k)) (hC : P.cellsOf e = 1)
    (hv : Value.okWide P W .any b0 t v) (h : DataW.Trod enc P W 0 (fun _ => true) true t v d p) :
    ∃ (A : Option Addr) (n c : Nat) (zs : List Int), v = .slice A n c ∧ Rd W W.heap.size 1 A n c (zs.map (Value.int k)) ∧ ∀ z ∈ zs, (Lit.int k z).wf = true := by
  obtain ⟨A, n, c, rfl⟩ := okWide_slice ht hv
  obtain ⟨fuel, hf⟩ := h
  rcases open_ints ht he hC hf with ⟨hcs, _⟩ | ⟨x, l, c', zs, hcs, _, hl, hm, hz, _, hcell, hwz⟩
  · simp [Value.cells] at hcs
    obtain ⟨rfl, rfl, rfl⟩ := hcs
    exact ⟨none, 0, 0, [], rfl, Rd.none_ _ _ _, by simp⟩
  · simp [Value.cells] at hcs
    obtain ⟨rfl, rfl, rfl⟩ := hcs
    have hz' : zs.length = c := by simpa using hz
    refine ⟨_, _, _, zs.take n, rfl, ⟨by simp [hz']; omega, hl, hm, fun hn => ⟨x, rfl, ?_, fun j u hu => ?_⟩⟩, fun z hz => hwz z (List.mem_of_mem_take hz)⟩
    · have := hcell 0 (by omega)
      have := World.block_lt_of_cell? W _ this
      rwa [blk_add] at this
    · have hj : j < n := by
        rcases Nat.lt_or_ge j n with h | h
        · exact h
        · rw [List.getElem?_eq_none (by simp; omega)] at hu; cases hu
      rw [hcell j (by omega)]
      simp [List.getElem?_take, hj] at hu
      obtain ⟨z, hz1, rfl⟩ := hu
      simp [List.getD, hz1]
theorem nums_bytes : ∀ (zs : List Int), (∀ z ∈ zs, (Lit.int .u8 z).wf = true) → ∃ l : List UInt8, zs.map (Value.int .u8) = bv l
  | [], _ => ⟨[], rfl⟩
  | z :: zs, h => by
    obtain ⟨l, hl⟩ := nums_bytes zs fun z hz => h z (List.mem_cons_of_mem _ hz)
    obtain ⟨n, rfl, hn⟩ := wf_u8 (h z List.mem_cons_self)
    refine ⟨UInt8.ofNat n :: l, ?_⟩
    simp [bv] at hl ⊢
    refine ⟨by omega, hl⟩
/-- A slice of bytes. -/
theorem open_bytes {t e : TypeId} {b0 : Nat} {v : Value} {d : DataW H} {p : List MemPlace} (ht : P.underlying t = some (.slice e)) (he : P.underlying e = some (.int .u8)) (hC : P.cellsOf e = 1)
    (hv : Value.okWide P W .any b0 t v) (h : DataW.Trod enc P W 0 (fun _ => true) true t v d p) :
    ∃ (A : Option Addr) (n c : Nat) (l : List UInt8), v = .slice A n c ∧ Rd W W.heap.size 1 A n c (bv l) := by
  obtain ⟨A, n, c, zs, hv', hr, hz⟩ := open_nums ht he hC hv h
  obtain ⟨l, hl⟩ := nums_bytes zs hz
  exact ⟨A, n, c, l, hv', hl ▸ hr⟩
/-- A slice of bytes, of its one cell. -/
theorem cell_nums {k : IntKind} {t e : TypeId} {m : Nat} {u : Value} {y : DataW H × List MemPlace} (ht : P.underlying t = some (.slice e)) (he : P.underlying e = some (.int k)) (hC : P.cellsOf e = 1)
    (h : DataW.trod enc P W 0 (fun _ => true) true m t [u] = some y) :
    ∃ (A : Option Addr) (n c : Nat) (zs : List Int), u = .slice A n c ∧ Rd W W.heap.size 1 A n c (zs.map (Value.int k)) ∧ ∀ z ∈ zs, (Lit.int k z).wf = true := by
  rcases open_ints ht he hC h with ⟨hcs, _⟩ | ⟨x, l, c', zs, hcs, _, hl, hm, hz, _, hcell, hwz⟩
  · injection hcs with hcs
    subst hcs
    exact ⟨none, 0, 0, [], rfl, Rd.none_ _ _ _, by simp⟩
  · injection hcs with hcs
    subst hcs
    have hz' : zs.length = c' := by simpa using hz
    refine ⟨_, _, _, zs.take l, rfl, ⟨by simp [hz']; omega, hl, hm, fun hn => ⟨x, rfl, ?_, fun j u hu => ?_⟩⟩, fun z hz => hwz z (List.mem_of_mem_take hz)⟩
    · have := hcell 0 (by omega)
      have := World.block_lt_of_cell? W _ this
      rwa [blk_add] at this
    · have hj : j < l := by
        rcases Nat.lt_or_ge j l with h | h
        · exact h
        · rw [List.getElem?_eq_none (by simp; omega)] at hu; cases hu
      rw [hcell j (by omega)]
      simp [List.getElem?_take, hj] at hu
      obtain ⟨z, hz1, rfl⟩ := hu
      simp [List.getD, hz1]
theorem cell_bytes {t e : TypeId} {m : Nat} {u : Value} {y : DataW H × List MemPlace} (ht : P.underlying t = some (.slice e)) (he : P.underlying e = some (.int .u8)) (hC : P.cellsOf e = 1)
    (h : DataW.trod enc P W 0 (fun _ => true) true m t [u] = some y) : ∃ (A : Option Addr) (n c : Nat) (l : List UInt8), u = .slice A n c ∧ Rd W W.heap.size 1 A n c (bv l) := by
  obtain ⟨A, n, c, zs, hv', hr, hz⟩ := cell_nums ht he hC h
  obtain ⟨l, hl⟩ := nums_bytes zs hz
  exact ⟨A, n, c, l, hv', hl ▸ hr⟩
/-- A slice of structs whose fields have one cell each: each field of each element is read from its cell. -/
theorem open_rows {t e : TypeId} {fs : Array Field} {b0 : Nat} {v : Value} {d : DataW H} {p : List MemPlace} (ht : P.underlying t = some (.slice e)) (he : P.underlying e = some (.struct fs)) (hone : Go.Deep.oneCellFields P fs = true) (hC : P.cellsOf e = fs.size) (hpos : 0 < fs.size)
    (hv : Value.okWide P W .any b0 t v) (h : DataW.Trod enc P W 0 (fun _ => true) true t v d p) :
    ∃ (A : Option Addr) (n c : Nat), v = .slice A n c ∧ n ≤ c ∧ c ≤ maxLen ∧ (0 < n → ∃ g off, A = some ⟨g, off, none⟩ ∧ g < W.heap.size ∧
      ∀ i, i < n → ∀ j f, fs[j]? = some f → ∃ u m y, W.cell? ⟨g, off + i * fs.size + j, none⟩ = some u ∧ DataW.trod enc P W 0 (fun _ => true) true m f.type [u] = some y) := by
  obtain ⟨A, n, c, rfl⟩ := okWide_slice ht hv
  obtain ⟨fuel, hf⟩ := h
  rcases Go.Deep.open_slice ht hf with ⟨hcs, _⟩ | ⟨a, len, cap, m, n', D, Pl, hcs, _, hl, hm, hmm, _, hi⟩
  · simp [Value.cells] at hcs
    obtain ⟨rfl, rfl, rfl⟩ := hcs
    exact ⟨none, 0, 0, rfl, Nat.le_refl _, Nat.zero_le _, fun h => absurd h (Nat.lt_irrefl _)⟩
  · simp [Value.cells] at hcs
    obtain ⟨rfl, rfl, rfl⟩ := hcs
    refine ⟨_, n, c, rfl, hl, hm, fun hn => ?_⟩
    have hmc : n ≤ m := by rw [hmm]; simp; omega
    have one : ∀ i, i < n → ∀ j f, fs[j]? = some f → ∃ u k y, W.cell? (a.add (i * fs.size + j)) = some u ∧ DataW.trod enc P W 0 (fun _ => true) true k f.type [u] = some y := by
      intro i hin j f hj
      obtain ⟨cs, hc, htr⟩ := hi i (by omega)
      rw [hC] at hc
      obtain ⟨xs, k, _, _, hcl, hxl, hfs⟩ := DataW.trod_struct he htr
      obtain ⟨_, hlen, hat⟩ := World.cells?_some hc
      have hjl : j < fs.size := (Array.getElem?_eq_some_iff.1 hj).1
      obtain ⟨ho, h1⟩ := Go.Deep.hone_of hone j f hj
      have hf := hfs j f hj
      rw [ho, h1] at hf
      have hcj : j < cs.length := by omega
      have e1 : (cs.drop j).take 1 = [cs[j]] := by
        rw [List.drop_eq_getElem_cons hcj]; rfl
      rw [e1, List.getElem?_eq_getElem (show j < xs.length by omega)] at hf
      refine ⟨cs[j], k, _, ?_, hf⟩
      rw [← addr_add, hat j hjl, List.getElem?_eq_getElem hcj]
    obtain ⟨u0, _, _, hu0, _⟩ := one 0 hn 0 fs[0] (Array.getElem?_eq_getElem hpos)
    rw [Nat.zero_mul, Nat.zero_add, addr_zero] at hu0
    have hsp := World.cell?_spot hu0
    have hlt := World.block_lt_of_cell? W _ hu0
    obtain ⟨g, off, sp⟩ := a
    simp only at hsp
    subst hsp
    refine ⟨g, off, rfl, hlt, fun i hin j f hj => ?_⟩
    obtain ⟨u, k, y, h1, h2⟩ := one i hin j f hj
    rw [Addr.add_mid, ← Nat.add_assoc] at h1
    exact ⟨u, k, y, h1, h2⟩
end

end Go.Proofs.YtonejdjhdjckjaaGreat
