/-
  A plain region inside a round: what was walked plainly holds there. Results that lie in cells.
-/
import Derived.Test.YtplgcfjcdjlnbaaRangeFn
import Derived.Test.YtplgcfjcdjlnbaaBase
import Derived.OwnWalkIn
set_option linter.unusedSimpArgs false
set_option linter.unusedVariables false
namespace Go.Proofs.Ytplgcfjcdjlnbaa
open Go.RowKit

theorem listIn_ {P : Program} {n l : Nat} {ops : Array Oper} {Q : Exit → Act → World → Prop} (hQ : ¬ LetsOut Q) : ∀ (L : List Oper), (∀ o ∈ L, ∀ c, o.op ≠ .defer c) → ∀ (a : Act) (w : World), wpList P ops Q L a w → wpListIn (Fence.wide.inRound l) n P ops Q L a w
  | [], _, _, _, h => h
  | o :: r, hd, a, w, h => by
    have ih := listIn_ (P := P) (ops := ops) (n := n) (l := l) hQ r (fun o' ho => hd o' (List.mem_cons_of_mem _ ho))
    unfold wpList at h
    unfold wpListIn
    split
    · rename_i hw
      rw [if_pos hw] at h
      rcases h with h | h
      · exact Oper.wpIn_mono (fun a' w' h' => ih a' w' h') (wp_round (hd o List.mem_cons_self) h)
      · exact absurd h.2 hQ
    · rename_i hw
      rw [if_neg hw] at h
      exact ⟨fun f _ => trivial, ih _ _ h⟩
/-- Halts a walk in a round ahead of a load of a certain type. -/
theorem stop_loadI (t : TypeId) {P : Program} {F : Fence} {n : Nat} {w : World} {ops : Array Oper} {rest : List Oper} {a : Act} {Q : Exit → Act → World → Prop} {d : Option Tmp} {x : Operand} {ty : TypeId} {pos : String} {af : Array Edge} {g : Option (Nat × Bool)}
    (h : Stop (wpListIn F n P ops Q (⟨d, .load t x, ty, pos, af, g⟩ :: rest) a w)) : wpListIn F n P ops Q (⟨d, .load t x, ty, pos, af, g⟩ :: rest) a w := h
/-- Two results that lie in cells. -/
theorem results_cells2 {P : Program} {fn : Func} {p q : Tmp} {t1 t2 : TypeId} (h : fn.results = #[.cell p t1, .cell q t2]) (tmps : Array Value) (w : World) (a b : Addr) (u v : Value) (d1 d2 : TypeDesc)
    (hp : tmps.getD p undef = .pointer (some a)) (hq : tmps.getD q undef = .pointer (some b)) (h1 : P.underlying t1 = some d1) (n1 : (match d1 with | .struct _ => false | .array _ _ => false | _ => true) = true)
    (h2 : P.underlying t2 = some d2) (n2 : (match d2 with | .struct _ => false | .array _ _ => false | _ => true) = true) (ha : w.cell? a = some u) (hb : w.cell? b = some v) :
    (results fn tmps).run P w = .ok (.tuple #[u, v]) w := by
  have hp' : tmps[p]?.getD undef = .pointer (some a) := by simpa using hp
  have hq' : tmps[q]?.getD undef = .pointer (some b) := by simpa using hq
  have g1 : (isAgg t1).run P w = .ok false w := by
    unfold isAgg
    rw [Sem.run_bind, run_underlying h1 w]
    cases d1 <;> simp at n1 <;> rfl
  have g2 : (isAgg t2).run P w = .ok false w := by
    unfold isAgg
    rw [Sem.run_bind, run_underlying h2 w]
    cases d2 <;> simp at n2 <;> rfl
  have l1 : (loadVar t1 a).run P w = .ok u w := by
    unfold loadVar
    rw [Sem.run_bind, g1]
    simp [load, Sem.run, ha]
  have l2 : (loadVar t2 b).run P w = .ok v w := by
    unfold loadVar
    rw [Sem.run_bind, g2]
    simp [load, Sem.run, hb]
  simp [results, h, hp', hq', asAddr, l1, l2]

end Go.Proofs.Ytplgcfjcdjlnbaa
