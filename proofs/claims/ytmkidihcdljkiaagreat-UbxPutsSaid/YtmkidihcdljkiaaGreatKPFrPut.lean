/-
  frame: fits, Size, octets, Put, walked; and the document's Put.
-/
import Derived.Test.YtmkidihcdljkiaaGreatKPGFA
set_option linter.unusedSimpArgs false
set_option linter.unusedVariables false
namespace Go.Proofs.YtmkidihcdljkiaaGreat
open Go.RowKit NumLaw

def frFits (n : Int) : Bool := decide (0 ≤ n ∧ n ≤ 1016)
theorem frfits_any (n : Int) (w : World) : Calls Tryz.prog 52 #[.int .i64 n] w fun e w' => e = .returned (.bool (frFits n)) ∧ w = w' := by
  unfold frFits
  rcases (by omega : n < 0 ∨ (0 ≤ n ∧ n ≤ 1016) ∨ (0 ≤ n ∧ 1016 < n)) with h | ⟨h1, h2⟩ | ⟨h1, h2⟩
  all_goals
    go_enter Tryz.func52, Tryz.ntmps52
    go_wp2
    go_ret
    refine ⟨?_, rfl⟩
    simp
    try omega
/-- Is a number no byte? -/
def noB (c : Int) : Bool := decide (c < 0 ∨ 255 < c)
theorem frno_any (c : Int) (w : World) : Calls Tryz.prog 71 #[.int .i64 c] w fun e w' => e = .returned (.bool (noB c)) ∧ w = w' := by
  unfold noB
  rcases (by omega : c < 0 ∨ (0 ≤ c ∧ c ≤ 255) ∨ (0 ≤ c ∧ 255 < c)) with h | ⟨h1, h2⟩ | ⟨h1, h2⟩
  all_goals
    go_enter Tryz.func71, Tryz.ntmps71
    go_wp2
    go_ret
    refine ⟨?_, rfl⟩
    simp
    try omega
def anyNo (l : List Int) : Bool := l.any noB
set_option maxHeartbeats 400000 in
theorem fridx_any (A : Option Addr) (n c B : Nat) (l : List Int) (w : World) (h : Rd w B 1 A n c (l.map (Value.int .i64))) :
    Calls Tryz.prog 82 #[.slice A n c, .func (.func 71) #[] #[]] w fun e w' => (∃ r : Int, e = .returned (.int .i64 r) ∧ (0 ≤ r ↔ anyNo l = true)) ∧ w = w' := by
  have hle := h.le
  have hmx := h.max
  unfold maxLen at hmx
  have hll : l.length = n := by have := h.len; simpa using this
  have Hl := Lib.hid hll
  clear hll
  go_enter Tryz.func82, Tryz.ntmps82
  go_wp2
  go_loop [8] (fun i => ∃ k : Nat, k ≤ n ∧ i = .int .i64 k ∧ anyNo (l.take k) = false) (fun i => n - (intOf i).toNat)
  case atStart => exact ⟨0, by omega, rfl, rfl⟩
  case round =>
    obtain ⟨k, hk, rfl, hnone⟩ := hrel
    have Hn := Lib.hid hnone
    clear hnone
    by_cases hlt : k < n
    · obtain ⟨ad, u, rfl, hu, hcell⟩ := h.one hlt
      obtain ⟨z, hz, rfl⟩ : ∃ z, l[k]? = some z ∧ Value.int .i64 z = u := by simpa using hu
      have Hs : Hid (anyNo (l.take (k + 1)) = noB z) := Lib.hid (by have h0 := Hn.out; unfold anyNo at h0 ⊢; rw [take_succ hz, List.any_append, h0]; simp)
      have Hm : Hid (noB z = true → anyNo l = true) := Lib.hid (fun hb => by unfold anyNo; exact List.any_eq_true.2 ⟨z, List.mem_of_getElem? hz, hb⟩)
      clear hu hz
      go_wp2_with fail
      go_fit (frno_any z w)
      rintro e w1 ⟨rfl, rfl⟩
      cases hb : noB z with
      | true =>
        have Hm2 := Lib.hid (Hm.out hb)
        clear Hs Hm hb
        go_wp2
        go_ret
        exact ⟨⟨k, rfl, by rw [Hm2.out]; simp⟩, rfl⟩
      | false =>
        rw [hb] at Hs
        clear hb Hm
        go_wp2
        go_round
        case rel => exact ⟨k + 1, by omega, by go_num, Hs.out⟩
        case measure => simp [intOf]; omega
    · obtain rfl : k = n := by omega
      have ht : l.take k = l := List.take_of_length_le (by rw [Hl.out]; omega)
      rw [ht] at Hn
      go_wp2
      go_ret
      exact ⟨⟨-1, rfl, by rw [Hn.out]; simp⟩, rfl⟩
theorem frcont_any (A : Option Addr) (n c B : Nat) (l : List Int) (w : World) (h : Rd w B 1 A n c (l.map (Value.int .i64))) :
    Calls Tryz.prog 70 #[.slice A n c, .func (.func 71) #[] #[]] w fun e w' => e = .returned (.bool (anyNo l)) ∧ w = w' := by
  have hi := fridx_any A n c B l w h
  go_enter Tryz.func70, Tryz.ntmps70
  go_wp2_with fail
  go_fit hi
  rintro e w1 ⟨⟨r, rfl, hr⟩, rfl⟩
  go_wp2
  go_ret
  refine ⟨congrArg (fun b => Ending.returned (.bool b)) ?_, rfl⟩
  rw [Bool.eq_iff_iff, ← hr]
theorem froct_any (A : Option Addr) (n c B : Nat) (l : List Int) (w : World) (h : Rd w B 1 A n c (l.map (Value.int .i64))) :
    Calls Tryz.prog 51 #[.slice A n c] w fun e w' => e = .returned (.bool (!anyNo l)) ∧ w = w' := by
  have hi := frcont_any A n c B l w h
  go_enter Tryz.func51, Tryz.ntmps51
  go_wp2_with fail
  go_fit hi
  rintro e w1 ⟨rfl, rfl⟩
  go_wp2
  go_ret
  exact ⟨rfl, rfl⟩

/- Put -/
theorem rd_lit (w : World) (e : TypeId) (cs : List Value) (hm : cs.length ≤ maxLen) : Rd (w.alloc (.cells cs.toArray e)) (w.heap.size + 1) 1 (some ⟨w.heap.size, 0, none⟩) cs.length cs.length cs := by
  refine ⟨by simp, Nat.le_refl _, hm, fun _ => ⟨_, rfl, Nat.lt_succ_self _, fun j u hu => ?_⟩⟩
  have e1 : (⟨w.heap.size, 0, none⟩ : Addr).add j = ⟨w.heap.size, j, none⟩ := by unfold Addr.add; split <;> simp_all
  rw [e1, World.cell?, show (⟨w.heap.size, j, none⟩ : Addr).block = w.heap.size from rfl, heap_alloc_new w _]
  simpa using hu
def putE (c i : Int) (n : Nat) : Nat := if anyNo [c, i] = true then 1 else if 1016 < n then 7 else 0
/-- What a frame's sums are of. -/
def frBody (c i : Nat) (p : List UInt8) : List UInt8 := bytesN 1 c ++ bytesN 1 i ++ bytesN 2 p.length ++ p
def frB (c i : Int) (p : List UInt8) : List UInt8 := [181, 98] ++ sealF (frBody c.toNat i.toNat p)
def putB (c i : Int) (p : List UInt8) : List UInt8 := if putE c i p.length = 0 then frB c i p else []
def RetPF (w : World) (l : List UInt8) (err : Nat) (e : Ending) (w' : World) : Prop :=
  ∃ A n c, e = .returned (.tuple #[.slice A n c, .int .i64 (err : Int)]) ∧ w'.ownsRow w.heap.size 5 1 (.slice A n c) n (bv l) ∧ Below w.heap.size w w'
theorem frBody_len (c i : Nat) (p : List UInt8) : (frBody c i p).length = p.length + 4 := by
  simp only [frBody, List.length_append, bytesN_len]
  omega
theorem noB_not {c : Int} (h : noB c = false) : ∃ k : Nat, c = k ∧ k ≤ 255 := by
  unfold noB at h
  have := of_decide_eq_false h
  exact ⟨c.toNat, by omega, by omega⟩

/-- A writer's call lets stand all that lies below it. -/
theorem Wtr.below {w w' : World} {g : Nat} {v : Value} {l : List UInt8} {bad : Bool} (h : Wtr w g v l bad) (ha : Aw (Foot g v) w w') : Below g w w' :=
  ⟨ha.os, ha.tape, ha.output, ha.size, fun k hk => ha.block k (Nat.lt_trans hk h.lt) (fun hf => by have := (h.foot hf).1; omega)⟩

set_option maxRecDepth 10000 in
set_option maxHeartbeats 2000000 in
theorem frPut_any (c i : Int) (A : Option Addr) (n cap B : Nat) (p : List UInt8) (w : World) (h : Rd w B 1 A n cap (bv p)) (hB : B ≤ w.heap.size) :
    Calls Tryz.prog 29 #[.agg #[.int .i64 c, .int .i64 i, .slice A n cap]] w (RetPF w (putB c i p) (putE c i p.length)) := by
  have hll := h.blen
  have hle := h.le
  have hmx := h.max
  unfold maxLen at hmx
  have hfit := fun w => frfits_any (n : Int) w
  have h0 : Below w.heap.size w (w.alloc (.cells #[.int .i64 c, .int .i64 i, .slice A n cap] 40)) := (Below.refl _ _).alloc (Nat.le_refl _) _
  have h1 : Below w.heap.size w ((w.alloc (.cells #[.int .i64 c, .int .i64 i, .slice A n cap] 40)).alloc (.cells #[.int .i64 c, .int .i64 i] 3)) := h0.alloc (by simp) _
  have hr2 : Rd ((w.alloc (.cells #[.int .i64 c, .int .i64 i, .slice A n cap] 40)).alloc (.cells #[.int .i64 c, .int .i64 i] 3)) (w.heap.size + 2) 1 (some ⟨w.heap.size + 1, 0, none⟩) 2 2 ([c, i].map (Value.int .i64)) := by
    have := rd_lit (w.alloc (.cells #[.int .i64 c, .int .i64 i, .slice A n cap] 40)) 3 [.int .i64 c, .int .i64 i] (by simp [maxLen])
    rw [World.size_alloc] at this
    exact this
  have hoct := froct_any _ _ _ _ _ _ hr2
  have hbox : ((w.alloc (.cells #[.int .i64 c, .int .i64 i, .slice A n cap] 40)).alloc (.cells #[.int .i64 c, .int .i64 i] 3)).heap[w.heap.size]? = some (.cells #[.int .i64 c, .int .i64 i, .slice A n cap] 40) := (heap_alloc_old _ _ (by simp)).trans (heap_alloc_new w _)
  clear h0 hr2
  cases ha : anyNo [c, i] with
  | true =>
    rw [ha] at hoct
    rw [show putB c i p = [] by unfold putB putE; rw [ha]; rfl, show putE c i p.length = 1 by unfold putE; rw [ha]; rfl]
    clear ha hll hbox hfit
    go_enter Tryz.func29, Tryz.ntmps29
    go_wp2_with fail
    go_fit hoct
    rintro e w1 ⟨rfl, rfl⟩
    go_wp2
    go_ret2
    exact ⟨none, 0, 0, rfl, World.ownsRow_nil _ _ _ _, h1⟩
  | false =>
    rw [ha] at hoct
    cases hf : frFits (n : Int) with
    | false =>
      have hn : 1016 < n := by have := of_decide_eq_false hf; omega
      rw [hf] at hfit
      rw [show putB c i p = [] by unfold putB putE; rw [ha, hll, if_pos hn]; rfl, show putE c i p.length = 7 by unfold putE; rw [ha, hll, if_pos hn]; rfl]
      clear ha hf hll
      have c2 := blk_cell (i := 2) (v := .slice A n cap) hbox rfl
      go_enter Tryz.func29, Tryz.ntmps29
      go_wp2_with fail
      go_fit hoct
      rintro e w1 ⟨rfl, rfl⟩
      go_wp2_with fail
      go_fit (hfit _)
      rintro e w1 ⟨rfl, rfl⟩
      go_wp2
      go_ret2
      exact ⟨none, 0, 0, rfl, World.ownsRow_nil _ _ _ _, h1⟩
    | true =>
      have hn : n ≤ 1016 := by have := of_decide_eq_true hf; omega
      rw [hf] at hfit
      have hp0 : putE c i p.length = 0 := by unfold putE; rw [ha, if_neg (by simp), hll, if_neg (by omega)]
      rw [show putB c i p = frB c i p by unfold putB; rw [if_pos hp0], hp0]
      obtain ⟨hc, hi⟩ : noB c = false ∧ noB i = false := by unfold anyNo at ha; simpa using ha
      obtain ⟨c, rfl, hc⟩ := noB_not hc
      obtain ⟨i, rfl, hi⟩ := noB_not hi
      have hB1 : (frBody c i p).length = n + 4 := by rw [frBody_len, hll]
      obtain ⟨body, hbody⟩ : ∃ body, body = frBody c i p := ⟨_, rfl⟩
      rw [show frB (c : Int) (i : Int) p = [181, 98] ++ sealF body by rw [hbody]; rfl]
      rw [← hbody] at hB1
      have Hb := Lib.hid hbody
      have Hl := Lib.hid hll
      clear ha hf hll hp0 hbody
      have hcw : IntKind.u64.wrap (c : Int) = (c : Int) := IntWalk.u64_in _ (by omega)
      have hiw : IntKind.u64.wrap (i : Int) = (i : Int) := IntWalk.u64_in _ (by omega)
      have hnw : IntKind.u64.wrap (n : Int) = (n : Int) := IntWalk.u64_in _ (by omega)
      have hr1 := h.up (h1.mono hB)
      go_enter Tryz.func29, Tryz.ntmps29
      have c0 := blk_cell (i := 0) (v := .int .i64 c) hbox rfl
      have c1 := blk_cell (i := 1) (v := .int .i64 i) hbox rfl
      have c2 := blk_cell (i := 2) (v := .slice A n cap) hbox rfl
      go_wp2_with fail
      go_fit hoct
      rintro e w1 ⟨rfl, rfl⟩
      go_wp2_with fail
      go_fit (hfit _)
      rintro e w1 ⟨rfl, rfl⟩
      generalize ((w.alloc (.cells #[.int .i64 (c : Int), .int .i64 (i : Int), .slice A n cap] 40)).alloc (.cells #[.int .i64 (c : Int), .int .i64 (i : Int)] 3)) = w1 at *
      clear hoct hfit c0 c1 c2
      go_wp2_with fail
      go_fit (wMake_any w1)
      rintro e w2 ⟨rfl, hw2, hb12⟩
      have hg1 := h1.size
      have hlb := blk_lt hbox
      replace hbox := blk_old hbox hb12 hlb
      replace hr1 := hr1.up (hb12.mono (Nat.le_trans hB h1.size))
      have hb2 := bnx h1 hb12
      have c0 := blk_cell (i := 0) (v := .int .i64 c) hbox rfl
      clear h1 hb12
      generalize w1.heap.size = g at *
      have hlb : w.heap.size < g := hlb
      go_wp2_with fail
      go_fit (wU_any g _ [] false 1 c w2 hw2 (by omega) (by simp))
      rintro e w3 ⟨rfl, v3, hw3, ha3, _⟩
      rw [show fU 1 c = true by unfold fU; rw [decide_eq_true]; exact ⟨by omega, by omega, by show c < 256; omega⟩] at hw3
      have hb23 := hw2.below ha3
      replace hbox := blk_old hbox hb23 hlb
      replace hr1 := hr1.up (hb23.mono (by omega))
      replace hb2 := hb2.trans (hb23.mono (by omega))
      have c1 := blk_cell (i := 1) (v := .int .i64 i) hbox rfl
      clear hb23 ha3 hw2 c0
      go_wp2_with fail
      go_fit (wU_any g _ _ _ 1 i w3 hw3 (by omega) (by simp [wtB, bytesN]))
      rintro e w4 ⟨rfl, v4, hw4, ha4, _⟩
      rw [show fU 1 i = true by unfold fU; rw [decide_eq_true]; exact ⟨by omega, by omega, by show i < 256; omega⟩] at hw4
      have hb34 := hw3.below ha4
      replace hbox := blk_old hbox hb34 hlb
      replace hr1 := hr1.up (hb34.mono (by omega))
      replace hb2 := hb2.trans (hb34.mono (by omega))
      have c2 := blk_cell (i := 2) (v := .slice A n cap) hbox rfl
      clear hb34 ha4 hw3 c1
      go_wp2_with fail
      go_fit (wU_any g _ _ _ 2 n w4 hw4 (by omega) (by simp [wtB, bytesN]))
      rintro e w5 ⟨rfl, v5, hw5, ha5, _⟩
      rw [show fU 2 n = true by unfold fU; rw [decide_eq_true]; exact ⟨by omega, by omega, by show n < 65536; omega⟩] at hw5
      have hb45 := hw4.below ha5
      replace hbox := blk_old hbox hb45 hlb
      replace hr1 := hr1.up (hb45.mono (by omega))
      replace hb2 := hb2.trans (hb45.mono (by omega))
      replace c2 := blk_cell (i := 2) (v := .slice A n cap) hbox rfl
      clear hb45 ha5 hw4
      go_wp2_with fail
      go_fit (wRaw_any g _ _ _ A n cap B p w5 hw5 hr1 (by simp [wtB, bytesN]; omega))
      rintro e w6 ⟨rfl, v6, hw6, ha6, _⟩
      have hb56 := hw5.below ha6
      replace hb2 := hb2.trans (hb56.mono (by omega))
      have hw6' : Wtr w6 g v6 body false := by
        rw [Hb.out]
        unfold frBody
        rw [Hl.out]
        exact hw6
      clear hb56 ha6 hw5 c2 hw6 hr1 hbox
      go_wp2_with fail
      have hb7 : Below w6.heap.size w6 (w6.alloc (.cells #[.int .u8 181, .int .u8 98] 5)) := (Below.refl _ _).alloc (Nat.le_refl _) _
      have hr7 := rd_const w6 5 [181, 98] (0, 0) (by simp [maxLen])
      have hw7 : Wtr (w6.alloc (.cells #[.int .u8 181, .int .u8 98] 5)) g v6 body false := hw6'.keep (Aw.of_below' (U := fun _ => False) hb7) (fun _ _ h => h)
      go_fit (wBytes_any g v6 body false _ hw7 (by omega))
      rintro e w8 ⟨A8, c8, n8, rfl, hown8, hb8⟩
      have hn8 := own_len hown8
      go_wp2_with fail
      go_fit (flSeal_any A8 n8 c8 _ body w8 (Rd.own hown8) (Nat.le_refl _) (by omega))
      rintro e w9 ⟨A9, c9, n9, rfl, hown9, hb9⟩
      have hn9 := own_len hown9
      rw [sealF_len] at hn9
      go_wp2_with fail
      have h7w : (w6.alloc (.cells #[.int .u8 181, .int .u8 98] 5)).heap.size = w6.heap.size + 1 := World.size_alloc _ _
      have hb79 : Below (w6.heap.size + 1) (w6.alloc (.cells #[.int .u8 181, .int .u8 98] 5)) w9 := by
        have := bnx hb8 hb9
        rwa [h7w] at this
      have hr9 : Rd w9 w9.heap.size 1 (some ⟨w6.heap.size, 0, none⟩) 2 2 (bv [181, 98]) := (hr7.up hb79).more (by have := hb79.size; rw [h7w] at this; exact this)
      have hL := RdL.lit2 (e := 38) (Nat.le_refl _) hr9 (Rd.own hown9)
      have hC := concat_any _ _ _ _ _ _ hL (by simp) (by simp [sealF_len]; omega)
      have hflat : ([[181, 98], sealF body] : List (List UInt8)).flatten = [181, 98] ++ sealF body := by simp
      rw [hflat] at hC
      have hb9' : Below w.heap.size w w9 := (hb2.trans (hb7.mono (by have := hb2.size; omega))).trans (hb79.mono (by have := hb2.size; omega))
      go_fit hC
      rintro e w10 ⟨A10, c10, n10, rfl, hown10, hb10⟩
      have hb11 := bnx (hb9'.alloc hb9'.size _) hb10
      go_wp2
      go_ret2
      exact ⟨A10, n10, c10, rfl, own_mono hown10 (by simp; have := hb9'.size; omega), hb11⟩

/- the document's Put -/
set_option maxRecDepth 10000 in
set_option maxHeartbeats 2000000 in
theorem frqPut_any (c i : Int) (A : Option Addr) (n cap B : Nat) (p : List UInt8) (w : World) (h : Rd w B 1 A n cap (bv p)) (hB : B ≤ w.heap.size) :
    Calls Tryz.prog 30 #[.agg #[.int .i64 c, .int .i64 i, .slice A n cap]] w (RetPF w (putB c i p) (putE c i p.length)) := by
  have hll := h.blen
  have hle := h.le
  have hmx := h.max
  unfold maxLen at hmx
  have h1 : Below w.heap.size w (w.alloc (.cells #[.int .i64 c, .int .i64 i, .slice A n cap] 40)) := (Below.refl _ _).alloc (Nat.le_refl _) _
  have hbox : (w.alloc (.cells #[.int .i64 c, .int .i64 i, .slice A n cap] 40)).heap[w.heap.size]? = some (.cells #[.int .i64 c, .int .i64 i, .slice A n cap] 40) := heap_alloc_new w _
  have hr1 := h.up (h1.mono hB)
  have c0 := blk_cell (i := 0) (v := .int .i64 c) hbox rfl
  have c1 := blk_cell (i := 1) (v := .int .i64 i) hbox rfl
  have c2 := blk_cell (i := 2) (v := .slice A n cap) hbox rfl
  have hlb := blk_lt hbox
  by_cases hbad : c < 0 ∨ 255 < c ∨ i < 0 ∨ 255 < i
  · have ha : anyNo [c, i] = true := by unfold anyNo noB; simp; omega
    rw [show putB c i p = [] by unfold putB putE; rw [ha]; rfl, show putE c i p.length = 1 by unfold putE; rw [ha]; rfl]
    clear ha hll
    go_enter Tryz.func30, Tryz.ntmps30
    rcases (by omega : c < 0 ∨ (¬ c < 0 ∧ 255 < c) ∨ (¬ c < 0 ∧ ¬ 255 < c ∧ i < 0) ∨ (¬ c < 0 ∧ ¬ 255 < c ∧ ¬ i < 0 ∧ 255 < i)) with g1 | ⟨g1, g2⟩ | ⟨g1, g2, g3⟩ | ⟨g1, g2, g3, g4⟩
    all_goals
      go_wp2
      go_ret2
      exact ⟨none, 0, 0, rfl, World.ownsRow_nil _ _ _ _, h1⟩
  · obtain ⟨c, rfl⟩ : ∃ k : Nat, c = k := ⟨c.toNat, by omega⟩
    obtain ⟨i, rfl⟩ : ∃ k : Nat, i = k := ⟨i.toNat, by omega⟩
    have hc : c ≤ 255 := by omega
    have hi' : i ≤ 255 := by omega
    have ha : anyNo [(c : Int), (i : Int)] = false := by unfold anyNo noB; simp; omega
    clear hbad
    by_cases hn : 1016 < n
    · rw [show putB c i p = [] by unfold putB putE; rw [ha, hll, if_pos hn]; rfl, show putE c i p.length = 7 by unfold putE; rw [ha, hll, if_pos hn]; rfl]
      clear ha hll
      go_enter Tryz.func30, Tryz.ntmps30
      go_wp2
      go_ret2
      exact ⟨none, 0, 0, rfl, World.ownsRow_nil _ _ _ _, h1⟩
    · have hp0 : putE c i p.length = 0 := by unfold putE; rw [ha, if_neg (by simp), hll, if_neg (by omega)]
      rw [show putB c i p = frB c i p by unfold putB; rw [if_pos hp0], hp0]
      have hB1 : (frBody c i p).length = n + 4 := by rw [frBody_len, hll]
      obtain ⟨body, hbody⟩ : ∃ body, body = frBody c i p := ⟨_, rfl⟩
      rw [show frB (c : Int) (i : Int) p = [181, 98] ++ sealF body by rw [hbody]; rfl]
      rw [← hbody] at hB1
      have Hh : Hid (bv ([UInt8.ofNat (c % 256), UInt8.ofNat (i % 256), UInt8.ofNat (n % 256), UInt8.ofNat (n / 256 % 256)] ++ p) = bv body) := by
        rw [hbody]
        unfold frBody
        rw [hll]
        rfl
      obtain ⟨m1, hm1⟩ : ∃ m1, m1 = n % 256 := ⟨_, rfl⟩
      obtain ⟨m2, hm2⟩ : ∃ m2, m2 = n / 256 := ⟨_, rfl⟩
      have hl1 : m1 < 256 := by omega
      have hl2 : m2 < 256 := by omega
      have e1 : IntKind.u8.wrap (c : Int) = (c : Int) := by rw [u8_wrap]; omega
      have e2 : IntKind.u8.wrap (i : Int) = (i : Int) := by rw [u8_wrap]; omega
      have e3 : (n : Int).tmod 256 = (m1 : Int) := by rw [Int.tmod_eq_emod_of_nonneg (by omega)]; omega
      have e4 : (n : Int).tdiv 256 = (m2 : Int) := by rw [Int.tdiv_eq_ediv_of_nonneg (by omega)]; omega
      have e5 : IntKind.u8.wrap (m1 : Int) = (m1 : Int) := by rw [u8_wrap]; omega
      have e6 : IntKind.u8.wrap (m2 : Int) = (m2 : Int) := by rw [u8_wrap]; omega
      have Hlit : Hid (bv [UInt8.ofNat (c % 256), UInt8.ofNat (i % 256), UInt8.ofNat (n % 256), UInt8.ofNat (n / 256 % 256)] = [.int .u8 (c : Int), .int .u8 (i : Int), .int .u8 (m1 : Int), .int .u8 (m2 : Int)]) := by
        refine Lib.hid ?_
        simp only [bv, List.map_cons, List.map_nil]
        rw [u8_nat (by omega), u8_nat (by omega), u8_nat (by omega), u8_nat (by omega)]
        have : c % 256 = c := by omega
        have : i % 256 = i := by omega
        have : n / 256 % 256 = m2 := by omega
        simp [*]
      obtain ⟨i0, hi0⟩ := info_parts u8_info
      have Hi := Lib.hid hi0
      clear ha hll hp0 hbody hi0 hm1 hm2
      go_enter Tryz.func30, Tryz.ntmps30
      go_wp2_with (at_builtin; refine stop_ ?_)
      have hs1 : (w.alloc (.cells #[.int .i64 (c : Int), .int .i64 (i : Int), .slice A n cap] 40)).heap.size = w.heap.size + 1 := World.size_alloc _ _
      generalize (w.alloc (.cells #[.int .i64 (c : Int), .int .i64 (i : Int), .slice A n cap] 40)) = w1 at *
      have hown2 : (w1.alloc (.cells #[.int .u8 (c : Int), .int .u8 (i : Int), .int .u8 (m1 : Int), .int .u8 (m2 : Int)] 5)).ownsRow w.heap.size 5 1 (.slice (some ⟨w.heap.size + 1, 0, none⟩) 4 4) 4 (bv [UInt8.ofNat (c % 256), UInt8.ofNat (i % 256), UInt8.ofNat (n % 256), UInt8.ofNat (n / 256 % 256)]) := by
        rw [Hlit.out, ← hs1]
        exact own_new w1 w.heap.size 5 [.int .u8 (c : Int), .int .u8 (i : Int), .int .u8 (m1 : Int), .int .u8 (m2 : Int)] h1.size (by simp [maxLen])
      have hb2 := h1.alloc h1.size (.cells #[.int .u8 (c : Int), .int .u8 (i : Int), .int .u8 (m1 : Int), .int .u8 (m2 : Int)] 5)
      refine go_ (wpList_app Tryz.underlying38 Hi.out rfl (by omega) hown2 rfl (h.up (hb2.mono hB)) rfl (bv_one _) (k := n + 4) (by omega) ((bv_app _ _).symm.trans Hh.out) (by unfold maxLen; omega) (by omega) hb2.size ?_)
      intro A3 c3 w3 hown3 hB3
      have hb3 := hB3 hb2 hb2.size (Nat.le_refl _)
      clear hB3 hown2 c0 c1 c2 hbox
      have hb4 : Below w3.heap.size w3 (w3.alloc (.cells #[.int .u8 181, .int .u8 98] 5)) := (Below.refl _ _).alloc (Nat.le_refl _) _
      have hown4 : (w3.alloc (.cells #[.int .u8 181, .int .u8 98] 5)).ownsRow w.heap.size 5 1 (.slice (some ⟨w3.heap.size, 0, none⟩) 2 2) 2 (bv [181, 98]) := own_new w3 w.heap.size 5 [.int .u8 181, .int .u8 98] hb3.size (by simp [maxLen])
      go_wp2_with fail
      go_fit (flqSeal_any A3 (n + 4) c3 w3.heap.size body _ ((Rd.own hown3).up hb4) (by simp) (by omega))
      rintro e w5 ⟨A5, c5, n5, rfl, hown5, hb5⟩
      have hn5 := own_len hown5
      rw [sealF_len, hB1] at hn5
      go_wp2_with (at_builtin; refine stop_ ?_)
      refine go_ (wpList_app Tryz.underlying38 Hi.out rfl (by omega) (own_up hown4 hb5 (Nat.le_refl _)) rfl (Rd.own hown5) rfl (bv_one _) (k := 2 + n5) rfl (bv_app _ _).symm (by unfold maxLen; omega) (by omega) (by have := (bnx (bnx hb3 hb4) hb5).size; exact this) ?_)
      intro A6 c6 w6 hown6 hB6
      have hb6 := hB6 (bnx (bnx hb3 hb4) hb5) (bnx (bnx hb3 hb4) hb5).size (Nat.le_refl _)
      go_wp2
      go_ret2
      exact ⟨A6, 2 + n5, c6, rfl, hown6, hb6⟩

end Go.Proofs.YtmkidihcdljkiaaGreat
