import Derived.Test.YtfoabhdppkjmbaaGreatKZ17
set_option linter.unusedSimpArgs false
set_option linter.unusedVariables false
set_option maxHeartbeats 8000000
set_option maxRecDepth 10000
namespace Go.Proofs.YtfoabhdppkjmbaaGreat
open Bool renaming false→aD,true→aF
open Go renaming Addr→aW,Calls→aU,Oper→bA,Program→aZ,TypeId→aY,Value→aT,World→aS,maxLen→bB,yielded→bC
open Go.Ending renaming returned→aJ
open Go.IntKind renaming i32→aO,i64→Y,u32→aR,u64→aQ
open Go.Obj renaming cells→aI
open Go.Proofs.Tryz renaming prog→bH
open Go.RowKit renaming Below→aV,intOf→bE
open Go.Value renaming agg→aM,bool→aG,int→O,pointer→aK,slice→aL,tuple→aN
open Option renaming none→J,some→aE
open Go.Proofs.Tryz
namespace NumLaw
end NumLaw
section
open Go.RowKit NumLaw
attribute [local go_sem] Addr.add_mid
attribute [-go_sem] run_neq_struct
theorem AX(s:List Int)(hs:s.length=7)(w:aS):(binOp .neq 239 (aM (I9 s).toArray) (aM (I9 s).toArray)).run bH w= .ok (aG aD) w:=by
 obtain⟨x0,x1,x2,x3,x4,x5,x6,rfl⟩:=bk s hs;rw[run_neq_struct,run_equalIn_agg w 9999 _ _ _ (by simp only[Program.fieldsOf,pM]) EY];simp[I9,Program.fieldsOf,pM,Op.eqFields,part,run_equalIn_int w _ _ _ _ _ _ cO]
theorem Vv(t:Int)(A A':Option aW)(n c c':Nat)(l:List (List Int))(w:aS)(h:RdR w w.heap.size 7 A n c (l.map I9))(h':RdR w w.heap.size 7 A' n c' (l.map I9))(hlen: ∀s∈l,s.length=7):
  aU bH 71 #[aM #[O Y t,aL A n c],aM #[O Y t,aL A' n c']] w fun e w'=>e=aJ (aG aF)∧aV w.heap.size w w':=by
 have hle:=h.2.2.1;have hmx:=h.2.2.2.1;have VF:=h'.2.2.1;have Pv:=h'.2.2.2.1;unfold bB at hmx Pv;have Hlen:=bK hlen;clear hlen;obtain⟨a0,a1,hs,hb⟩:=yZ w (aI #[O Y t,aL A n c] 56) (aI #[O Y t,aL A' n c'] 56);clear hs;have c0:=bL (i:=0) (v:=O Y t) a0 D;have c1:=bL (i:=1) (v:=aL A n c) a0 D;have d0:=bL (i:=0) (v:=O Y t) a1 D;have d1:=bL (i:=1) (v:=aL A' n c') a1 D;have g0:=bT a0;have g1:=bT a1;have hr:=h.up hb;have hr':=h'.up hb;go_enter func71,ntmps71;go_wp2_with fail;generalize((w.alloc (aI #[O Y t,aL A n c] 56)).alloc (aI #[O Y t,aL A' n c'] 56))=w1 at*;clear a0 a1;go_loopw [5] (fun i wr=> ∃(k:Nat),k≤n∧i=O Y k∧aV w1.heap.size w1 wr) (fun i _=>n-(bE i).toNat);case atStart=>exact⟨0,by omega,D,bP _ _⟩
 case round=>
  clear c0 d0;obtain⟨k,hk,rfl,hbr⟩:=hrel;have k1:wr.cell? ⟨w.heap.size,1,J⟩=aE (aL A n c):=(hbr.cell (p:=⟨w.heap.size,1,J⟩) g0).trans c1;by_cases fF:k<n
  ·obtain⟨ga,off,rr,rfl,An,hx,Ce,hrow⟩:=hr.at_ fF;obtain⟨gb,Xj,ye,rfl,EJ,Kr,Pw,Ah⟩:=hr'.at_ fF;rw[hx] at Kr;injection Kr with Kr;subst Kr;obtain⟨s,hs,rfl⟩: ∃s,l[k]?=aE s∧I9 s=rr:=by simpa using hx
   have hne:=AX s (Hlen.out s (dD hs));have R1:=bK hrow;have R2:=bK Ah;have Hrl:=bK Ce;have fy:ga<w1.heap.size:=by omega
   have fz:gb<w1.heap.size:=by omega
   clear hx hs Ce Pw hrow Ah;go_wp2_with fail;refine cQ (fun w'=>aV w1.heap.size w1 w') aD [] (by kernel_rfl) (by kernel_rfl) hbr.drew ?_;replace hbr:=hbr.drew;generalize wr.drew=wd at*;clear k1;refine Ord.K ?_;refine cR uK D (fun w' hS=>((show aV _ w1 w' from hS).cell (p:=⟨w.heap.size,1,J⟩) g0).trans c1) hbr D (by kernel_rfl) ?_;refine PT ?_;refine Ord.K ?_;refine Ord.K ?_;refine eA pM D (by rw[Hrl.out];kernel_rfl) D (by intro e;have:=Hrl.out;rw[e] at this;cases this) (fun w' hS j v hv=>((show aV _ w1 w' from hS).cell (p:=⟨ga,off+k*7+j,J⟩) fy).trans (R1.out j v hv)) hbr (by kernel_rfl) ?_;refine PT ?_;refine Ord.K ?_;refine cR uK D (fun w' hS=>((show aV _ w1 w' from hS).cell (p:=⟨w.heap.size+1,1,J⟩) g1).trans d1) hbr D (by kernel_rfl) ?_;refine PT ?_;refine Ord.K ?_;refine Ord.K ?_;refine eA pM D (by rw[Hrl.out];kernel_rfl) D (by intro e;have:=Hrl.out;rw[e] at this;cases this) (fun w' hS j v hv=>((show aV _ w1 w' from hS).cell (p:=⟨gb,Xj+k*7+j,J⟩) fz).trans (R2.out j v hv)) hbr (by kernel_rfl) ?_;refine PT ?_;refine Ord.K ?_;refine cV ?_;clear hne;go_wp2;go_roundw;case rel=>exact⟨k+1,by omega,by go_num,hbr⟩
   case measure=>simp[bE];omega
  ·obtain rfl:k=n:=by omega
   have hbf:=hb.trans (hbr.mono hb.size);go_wp2;go_ret;exact⟨D,hbf⟩
abbrev tA:=@underlying241
theorem CI:Tryz.prog.stoodInHeld 241=aD:=by kernel_rfl
theorem Ws(p:Int × Int)(w:aS):(binOp .neq 241 (aM (K0 p).toArray) (aM (K0 p).toArray)).run bH w= .ok (aG aD) w:=by
 rw[run_neq_struct,run_equalIn_agg w 9999 _ _ _ (by simp only[Program.fieldsOf,tA]) CI];simp[K0,Program.fieldsOf,tA,Op.eqFields,part,run_equalIn_int w _ _ _ _ _ _ cO]
theorem Vq(t:Int)(A A':Option aW)(n c c':Nat)(l:List (Int × Int))(w:aS)(h:RdR w w.heap.size 2 A n c (l.map K0))(h':RdR w w.heap.size 2 A' n c' (l.map K0)):
  aU bH 72 #[aM #[O Y t,aL A n c],aM #[O Y t,aL A' n c']] w fun e w'=>e=aJ (aG aF)∧aV w.heap.size w w':=by
 have hle:=h.2.2.1;have hmx:=h.2.2.2.1;have VF:=h'.2.2.1;have Pv:=h'.2.2.2.1;unfold bB at hmx Pv;obtain⟨a0,a1,hs,hb⟩:=yZ w (aI #[O Y t,aL A n c] 63) (aI #[O Y t,aL A' n c'] 63);clear hs;have c0:=bL (i:=0) (v:=O Y t) a0 D;have c1:=bL (i:=1) (v:=aL A n c) a0 D;have d0:=bL (i:=0) (v:=O Y t) a1 D;have d1:=bL (i:=1) (v:=aL A' n c') a1 D;have g0:=bT a0;have g1:=bT a1;have hr:=h.up hb;have hr':=h'.up hb;go_enter func72,ntmps72;go_wp2_with fail;generalize((w.alloc (aI #[O Y t,aL A n c] 63)).alloc (aI #[O Y t,aL A' n c'] 63))=w1 at*;clear a0 a1;go_loopw [5] (fun i wr=> ∃(k:Nat),k≤n∧i=O Y k∧aV w1.heap.size w1 wr) (fun i _=>n-(bE i).toNat);case atStart=>exact⟨0,by omega,D,bP _ _⟩
 case round=>
  clear c0 d0;obtain⟨k,hk,rfl,hbr⟩:=hrel;have k1:wr.cell? ⟨w.heap.size,1,J⟩=aE (aL A n c):=(hbr.cell (p:=⟨w.heap.size,1,J⟩) g0).trans c1;by_cases fF:k<n
  ·obtain⟨ga,off,rr,rfl,An,hx,Ce,hrow⟩:=hr.at_ fF;obtain⟨gb,Xj,ye,rfl,EJ,Kr,Pw,Ah⟩:=hr'.at_ fF;rw[hx] at Kr;injection Kr with Kr;subst Kr;obtain⟨s,hs,rfl⟩: ∃s,l[k]?=aE s∧K0 s=rr:=by simpa using hx
   have hne:=Ws s;have R1:=bK hrow;have R2:=bK Ah;have Hrl:=bK Ce;have fy:ga<w1.heap.size:=by omega
   have fz:gb<w1.heap.size:=by omega
   clear hx hs Ce Pw hrow Ah;go_wp2_with fail;refine cQ (fun w'=>aV w1.heap.size w1 w') aD [] (by kernel_rfl) (by kernel_rfl) hbr.drew ?_;replace hbr:=hbr.drew;generalize wr.drew=wd at*;clear k1;refine Ord.K ?_;refine cR underlying61 D (fun w' hS=>((show aV _ w1 w' from hS).cell (p:=⟨w.heap.size,1,J⟩) g0).trans c1) hbr D (by kernel_rfl) ?_;refine PT ?_;refine Ord.K ?_;refine Ord.K ?_;refine eA tA D (by rw[Hrl.out];kernel_rfl) D (by intro e;have:=Hrl.out;rw[e] at this;cases this) (fun w' hS j v hv=>((show aV _ w1 w' from hS).cell (p:=⟨ga,off+k*2+j,J⟩) fy).trans (R1.out j v hv)) hbr (by kernel_rfl) ?_;refine PT ?_;refine Ord.K ?_;refine cR underlying61 D (fun w' hS=>((show aV _ w1 w' from hS).cell (p:=⟨w.heap.size+1,1,J⟩) g1).trans d1) hbr D (by kernel_rfl) ?_;refine PT ?_;refine Ord.K ?_;refine Ord.K ?_;refine eA tA D (by rw[Hrl.out];kernel_rfl) D (by intro e;have:=Hrl.out;rw[e] at this;cases this) (fun w' hS j v hv=>((show aV _ w1 w' from hS).cell (p:=⟨gb,Xj+k*2+j,J⟩) fz).trans (R2.out j v hv)) hbr (by kernel_rfl) ?_;refine PT ?_;refine Ord.K ?_;refine cV ?_;clear hne;go_wp2;go_roundw;case rel=>exact⟨k+1,by omega,by go_num,hbr⟩
   case measure=>simp[bE];omega
  ·obtain rfl:k=n:=by omega
   have hbf:=hb.trans (hbr.mono hb.size);go_wp2;go_ret;exact⟨D,hbf⟩
end
section
open Go.RowKit NumLaw
attribute [local go_sem] Addr.add_mid
attribute [-go_sem] run_eql_struct
abbrev uJ:=@underlying60
theorem dY{P:aZ}{ops:Array bA}{rest:List bA}{op:bA}{a:Act}{w:aS}{Q:Exit→Act→aS→Prop}(hw:Region.wanted op (bC ops a.tmps)=aF)(ty:aY)(x:Operand)(ho:op.op= .load ty x)
  (b o:Nat) (hx:a.eval x=aK (aE ⟨b,o,J⟩)) (cs:List aT) (d:TypeDesc) (hc:w.rangeAt b o cs)
  (hu:P.underlying ty=aE d) (hd:d.isRow=aF) (hi:(P.info? ty).map (·.size)=aE cs.length)
  (h:wpList P ops Q rest (a.put op.dst (.agg cs.toArray)) w):wpList P ops Q (op::rest) a w:=by
 unfold wpList;rw[bY hw];exact .inl (wp_load_mid ty x ho b o hx cs d hc hu hd hi h)
theorem QP(xs:List Int)(o:Nat)(x:Int)(w:aS)(h:xs[o]?=aE x):(part 2 (lB xs).toArray o).run bH w= .ok (O Y x) w:=by
 have h':(lB xs).toArray[o]?=aE (O Y x):=by simp[lB,h]
 simp[part,isAgg,dE cO,h']
theorem V8(xs:List Int)(d:Nat)(w:aS): ∀(fs:List Field),(∀f∈fs,f.type=2∧f.offset<xs.length)→(Op.eqFields (d+1) (lB xs).toArray (lB xs).toArray fs).run bH w= .ok aF w
 | [],_=>by simp[Op.eqFields]
 |f::fs,h=>by
  obtain⟨ht,ho⟩:=h f cP;have ih:=V8 xs d w fs (fun g hg=>h g (dV _ hg));have hp:=QP xs f.offset xs[f.offset] w (cF ho);simp only[Op.eqFields,ht];split
  ·simp only[eB,hp,eD,run_equalIn_int w _ _ _ _ _ _ cO,beq_self_eq_true,Bool.not_true,iG,sD,Sem.run_ite];exact ih
  ·exact ih
theorem Z9(xs:List Int)(hl:xs.length=32)(w:aS):(binOp .eql 53 (aM (lB xs).toArray) (aM (lB xs).toArray)).run bH w= .ok (aG aF) w:=by
 have hf:(Tryz.prog.fieldsOf 53).toList.all (fun f=>f.type==2 && decide (f.offset<32))=aF:=by kernel_rfl
 rw[run_eql_struct,run_equalIn_agg w 9999 _ _ _ (by simp only[Program.fieldsOf,mF]) (by kernel_rfl)]
 rw[V8 xs 9998 w _ (fun f h=>by
  have:=List.all_eq_true.1 hf f h;simp at this
  exact⟨this.1,by omega⟩)]
 rfl
theorem AO(xs:List Int)(hl:xs.length=8)(w:aS):(binOp .eql 58 (aM (lB xs).toArray) (aM (lB xs).toArray)).run bH w= .ok (aG aF) w:=by
 have hf:(Tryz.prog.fieldsOf 58).toList.all (fun f=>f.type==2 && decide (f.offset<8))=aF:=by kernel_rfl
 rw[run_eql_struct,run_equalIn_agg w 9999 _ _ _ (by simp only[Program.fieldsOf,underlying58]) (by kernel_rfl)]
 rw[V8 xs 9998 w _ (fun f h=>by
  have:=List.all_eq_true.1 hf f h;simp at this
  exact⟨this.1,by omega⟩)]
 rfl
theorem AE(y:Bool)(a b:Int)(w:aS):(binOp .eql 60 (aM (Li y a b).toArray) (aM (Li y a b).toArray)).run bH w= .ok (aG aF) w:=by
 rw[run_eql_struct,run_equalIn_agg w 9999 _ _ _ (by simp only[Program.fieldsOf,uJ]) (by kernel_rfl)];simp[Li,Program.fieldsOf,uJ,Op.eqFields,part,run_equalIn_int w _ _ _ _ _ _ cO,run_equalIn_bool' w _ _ _ _ underlying4]
theorem Uc(V:Ed)(a a':Nj)(w:aS)(hp:V.p.length=32)(hd:V.d.length=8)(hl: ∀s∈V.l,s.length=7)(h:UbR w w.heap.size V a)(h':UbR w w.heap.size V a'):
  aU bH 44 #[aM (kC V a).toArray,aM (kC V a').toArray] w fun e w'=>e=aJ (aG aF)∧aV w.heap.size w w':=by
 obtain⟨x0,x1,hs,hb⟩:=yZ w (aI (kC V a).toArray 65) (aI (kC V a').toArray 65);have hx:UbB ((w.alloc (aI (kC V a).toArray 65)).alloc (aI (kC V a').toArray 65)) w.heap.size V a:=x0;have hy:UbB ((w.alloc (aI (kC V a).toArray 65)).alloc (aI (kC V a').toArray 65)) (w.heap.size+1) V a':=x1;have hr:=(h.up hb).more hb.size;have hr':=(h'.up hb).more hb.size;have hqp: ∀w,(binOp .eql 53 (aM (lB V.p).toArray) (aM (lB V.p).toArray)).run bH w= .ok (aG aF) w:=Z9 V.p hp;have hqd:=AO V.d hd;have hqa:=AE V.y V.a1 V.a2;have Hip:Hid ((Tryz.prog.info? 53).map (·.size)=aE (lB V.p).length):=bK (by rw[zS,hp];kernel_rfl);have Hid_:Hid ((Tryz.prog.info? 58).map (·.size)=aE (lB V.d).length):=bK (by rw[zS,hd];kernel_rfl);have hn:a.n=a'.n:=by have e1:=h.s.1;have e2:=h'.s.1;omega
 have DA:a.n'=a'.n':=by have e1:=h.q.1;have e2:=h'.q.1;omega
 have Hs17:=bK (fun w1 (h1:RdR w1 w1.heap.size 7 a.A a.n a.c (V.l.map I9)) (h2:RdR w1 w1.heap.size 7 a'.A a'.n a'.c (V.l.map I9))=>Vv V.t a.A a'.A a.n a.c a'.c V.l w1 h1 (by rw[hn];exact h2) hl);rw[show∀x:Option aW,Value.slice x a.n a'.c=Value.slice x a'.n a'.c from fun x=>by rw[hn]] at Hs17;have Hs20:=bK (fun w1 (h1:RdR w1 w1.heap.size 2 a.A' a.n' a.c' (V.q.map K0)) (h2:RdR w1 w1.heap.size 2 a'.A' a'.n' a'.c' (V.q.map K0))=>Vq V.la a.A' a'.A' a.n' a.c' a'.c' V.q w1 h1 (by rw[DA];exact h2));rw[show∀x:Option aW,Value.slice x a.n' a'.c'=Value.slice x a'.n' a'.c' from fun x=>by rw[DA]] at Hs20;clear hn DA;have Hp:=bK hp;have Hd:=bK hd;have Hl:=bK hl;clear x0 x1 h h' hp hd hl;go_enter func44,ntmps44;go_wp2_with(with_reducible refine xM 3 ?_);generalize((w.alloc (aI (kC V a).toArray 65)).alloc (aI (kC V a').toArray 65))=w1 at*;have c0:=hx.kc;have c1:=hy.kc;refine eL ?_;go_wp2_with(with_reducible refine sG [53,56,58,60,63] ?_);refine eL (dY (by kernel_rfl) _ _ D (w.heap.size) 1 D _ _ (hx.pr Hp.out) mF D (Hip.out) ?_);go_wp2_with(with_reducible refine sG [53,56,58,60,63] ?_);refine eL (dY (by kernel_rfl) _ _ D (w.heap.size+1) 1 D _ _ (hy.pr Hp.out) mF D (Hip.out) ?_);go_wp2_with(with_reducible refine sG [53,56,58,60,63] ?_);refine eL (dY (by kernel_rfl) _ _ D (w.heap.size) 33 D _ _ (hx.sr Hp.out) underlying56 D (by kernel_rfl) ?_);go_wp2_with(with_reducible refine sG [53,56,58,60,63] ?_);refine eL (dY (by kernel_rfl) _ _ D (w.heap.size+1) 33 D _ _ (hy.sr Hp.out) underlying56 D (by kernel_rfl) ?_);go_wp2_with fail;go_fit(Hs17.out w1 hr.s hr'.s);rintro e w2 ⟨rfl,hb2⟩;replace hx:=hx.old hb2 (bT hx);replace hy:=hy.old hb2 (bT hy);replace hr:=(hr.up hb2).more hb2.size;replace hr':=(hr'.up hb2).more hb2.size;replace hb:=eI hb hb2;clear hb2 c0 c1;generalize w2=w1 at*;go_wp2_with(with_reducible refine sG [53,56,58,60,63] ?_);refine eL (dY (by kernel_rfl) _ _ D (w.heap.size) 35 D _ _ (hx.dr Hp.out) underlying58 D (Hid_.out) ?_);go_wp2_with(with_reducible refine sG [53,56,58,60,63] ?_)
 refine eL (dY (by kernel_rfl) _ _ D (w.heap.size+1) 35 D _ _ (hy.dr Hp.out) underlying58 D (Hid_.out) ?_);go_wp2_with(with_reducible refine sG [53,56,58,60,63] ?_);refine eL (dY (by kernel_rfl) _ _ D (w.heap.size) 43 D _ _ (hx.ar Hp.out Hd.out) uJ D (by kernel_rfl) ?_);go_wp2_with(with_reducible refine sG [53,56,58,60,63] ?_);refine eL (dY (by kernel_rfl) _ _ D (w.heap.size+1) 43 D _ _ (hy.ar Hp.out Hd.out) uJ D (by kernel_rfl) ?_);go_wp2_with(with_reducible refine sG [53,56,58,60,63] ?_);refine eL (dY (by kernel_rfl) _ _ D (w.heap.size) 46 D _ _ (hx.qr Hp.out Hd.out) underlying63 D (by kernel_rfl) ?_);go_wp2_with(with_reducible refine sG [53,56,58,60,63] ?_);refine eL (dY (by kernel_rfl) _ _ D (w.heap.size+1) 46 D _ _ (hy.qr Hp.out Hd.out) underlying63 D (by kernel_rfl) ?_);go_wp2_with fail;go_fit(Hs20.out w1 hr.q hr'.q);rintro e w3 ⟨rfl,hb3⟩;replace hb:=eI hb hb3;clear hb3 hx hy hr hr';go_wp2;go_ret;exact⟨D,hb⟩
end
section
open Go.RowKit NumLaw
attribute [local go_sem] Addr.add_mid
theorem tW{P:aZ}{fn:Func}{p:Tmp}{ty:aY}(h:fn.results= #[.cell p ty])(tmps:Array aT)(w:aS)(g:Nat)(t:aY)(cs:Array aT)(fr:Nat × Nat)(d:TypeDesc)
  (hp:tmps.getD p undef=aK (aE ⟨g,0,J⟩)) (hg:w.heap[g]?=aE (aI cs t fr))
  (hu:P.underlying ty=aE d) (hd:(match d with| .struct _| .array _ _=>aF|_=>aD)=aF) (hi:(P.info? ty).map (·.size)=aE cs.size):
  (results fn tmps).run P w= .ok (.agg cs) w:=by
 have yC:tmps[p]?.getD undef=aK (aE ⟨g,0,J⟩):=by simpa using hp
 simp[results,h,yC,asAddr,mL w g t ty cs fr d hg hu hd hi]
theorem mu(w:aS):aU bH 118 #[aM #[O aO 1073741824,O aO 0,O aO 0,O aO 0]] w fun e w'=>e=aJ (aM #[O aO 1073741824,O aO 0,O aO 0,O aO 0])∧aV w.heap.size w w':=by
 obtain⟨a0,a1,hs,hb⟩:=yZ w (aI #[O aO 1073741824,O aO 0,O aO 0,O aO 0] 40) (aI #[O aO 0,O aO 0,O aO 0,O aO 0] 252);have c0:=bL (i:=0) (v:=O aO 1073741824) a0 D;have c1:=bL (i:=1) (v:=O aO 0) a0 D;have c2:=bL (i:=2) (v:=O aO 0) a0 D;have c3:=bL (i:=3) (v:=O aO 0) a0 D;have hb2:=below_setRow hb (Nat.le_succ _) (#[O aO 1073741824,O aO 0,O aO 0,O aO 0]:Array aT);have h2:=setRow_heap _ _ _ (#[O aO 1073741824,O aO 0,O aO 0,O aO 0]:Array aT) _ _ a1;have HY:=bK (bO a1 (bO hb2 h2));clear a0 a1 hs hb hb2 h2;go_enter func118,ntmps118;go_wp2_with(with_reducible refine sG [252] ?_);obtain⟨a1,hb2,h2⟩:=HY.out;refine eL (wpList_store_row D _ _ _ D (w.heap.size+1) (#[O aO 1073741824,O aO 0,O aO 0,O aO 0]:Array aT) D D _ _ a1 (by kernel_rfl) D (by kernel_rfl) ?_);simp only[Act.put];repeat go_step
 exact bR (tW D _ _ (w.heap.size+1) _ _ _ _ D h2 underlying252 D (by kernel_rfl)) D ⟨D,hb2⟩
theorem LL(g:Nat)(w:aS)(h:w.heap[g]?=aE (aI #[O aO 1073741824,O aO 0,O aO 0,O aO 0] 252)):
  aU bH 146 #[aL (aE ⟨g,0,J⟩) 4 4] w fun e w'=>e=aJ (O aQ 1152921504606846976)∧w=w':=by
 have c0:=bL (i:=0) (v:=O aO 1073741824) h D;have c1:=bL (i:=1) (v:=O aO 0) h D;have c2:=bL (i:=2) (v:=O aO 0) h D;have c3:=bL (i:=3) (v:=O aO 0) h D;have ha0:=fun w:aS=>Lt 0 1152921504606846976 w;have ha1:=fun w:aS=>Lt 1152921504606846976 0 w;simp at ha0 ha1;clear h;go_enter func146,ntmps146;go_wp2_with fail;go_loopw [3,11] (fun s i wr=>wr=w∧((s=O aQ 0∧i=O Y 0)∨(s=O aQ 1152921504606846976∧(i=O Y 1∨i=O Y 2∨i=O Y 3∨i=O Y 4)))) (fun _ i _=>4-(bE i).toNat);case atStart=>exact⟨D,.inl ⟨D,D⟩⟩
 case round=>
  obtain⟨rfl,⟨rfl,rfl⟩|⟨rfl,rfl|rfl|rfl|rfl⟩⟩:=hrel
  ·go_wp2_with(simp only[ha0]);go_roundw;case rel=>simp
   case measure=>simp[bE]
  ·go_wp2_with(simp only[ha1]);go_roundw;case rel=>simp
   case measure=>simp[bE]
  ·go_wp2_with(simp only[ha1]);go_roundw;case rel=>simp
   case measure=>simp[bE]
  ·go_wp2_with(simp only[ha1]);go_roundw;case rel=>simp
   case measure=>simp[bE]
  ·go_wp2;go_ret;exact⟨D,D⟩
theorem kz(w:aS):aU bH 288 #[aM #[O aO 1073741824,O aO 0,O aO 0,O aO 0]] w fun e w'=>e=aJ (O aQ 1152921504606846976)∧aV w.heap.size w w':=by
 have a0:=bS w (aI #[O aO 1073741824,O aO 0,O aO 0,O aO 0] 40);have hb:aV w.heap.size w (w.alloc (aI #[O aO 1073741824,O aO 0,O aO 0,O aO 0] 40)):=(bP _ _).alloc (bM _) _;have c0:=bL (i:=0) (v:=O aO 1073741824) a0 D;have c1:=bL (i:=1) (v:=O aO 0) a0 D;have c2:=bL (i:=2) (v:=O aO 0) a0 D;have c3:=bL (i:=3) (v:=O aO 0) a0 D;go_enter func288,ntmps288;go_wp2_with fail;go_fit(mu _);rintro e w2 ⟨rfl,hbx⟩;have hb2:=eI hb hbx;have hm:=bS w2 (aI #[O aO 0,O aO 0,O aO 0,O aO 0] 252);have hb3:=eI hb2 ((bP w2.heap.size w2).alloc (bM _) (aI #[O aO 0,O aO 0,O aO 0,O aO 0] 252));clear hbx hb a0 c0 c1 c2 c3;go_wp2_with(with_reducible refine sG [252] ?_);refine eL (wpList_store_row D _ _ _ D w2.heap.size (#[O aO 1073741824,O aO 0,O aO 0,O aO 0]:Array aT) D D _ _ hm (by kernel_rfl) D (by kernel_rfl) ?_);have oX:=setRow_heap _ _ _ (#[O aO 1073741824,O aO 0,O aO 0,O aO 0]:Array aT) _ _ hm;have hb4:=below_setRow hb3 hb2.size (#[O aO 1073741824,O aO 0,O aO 0,O aO 0]:Array aT);have HQ:=bK (LL w2.heap.size _ oX);clear hm oX hb3;go_wp2_with fail;go_fit HQ.out;rintro e w5 ⟨rfl,rfl⟩;go_wp2;go_ret;exact⟨D,hb4⟩
theorem zk(w:aS):aU bH 243 #[aM #[O aO 1073741824,O aO 0,O aO 0,O aO 0]] w fun e w'=>e=aJ (O aQ 0)∧aV w.heap.size w w':=by
 have a0:=bS w (aI #[O aO 1073741824,O aO 0,O aO 0,O aO 0] 40);have hb:aV w.heap.size w (w.alloc (aI #[O aO 1073741824,O aO 0,O aO 0,O aO 0] 40)):=(bP _ _).alloc (bM _) _;have c0:=bL (i:=0) (v:=O aO 1073741824) a0 D;have c1:=bL (i:=1) (v:=O aO 0) a0 D;have c2:=bL (i:=2) (v:=O aO 0) a0 D;have c3:=bL (i:=3) (v:=O aO 0) a0 D;go_enter func243,ntmps243;go_wp2_with fail;go_fit(kz _);rintro e w2 ⟨rfl,hbx⟩;have hb2:=eI hb hbx;clear hbx hb a0 c0 c1 c2 c3;go_wp2;go_ret;exact⟨D,hb2⟩
theorem kIs(w:aS):aU bH 201 #[aM #[O aO 1073741824,O aO 0,O aO 0,O aO 0]] w fun e w'=>e=aJ (aG aF)∧aV w.heap.size w w':=by
 have a0:=bS w (aI #[O aO 1073741824,O aO 0,O aO 0,O aO 0] 40);have hb:aV w.heap.size w (w.alloc (aI #[O aO 1073741824,O aO 0,O aO 0,O aO 0] 40)):=(bP _ _).alloc (bM _) _;have c0:=bL (i:=0) (v:=O aO 1073741824) a0 D;have c1:=bL (i:=1) (v:=O aO 0) a0 D;have c2:=bL (i:=2) (v:=O aO 0) a0 D;have c3:=bL (i:=3) (v:=O aO 0) a0 D;go_enter func201,ntmps201;go_wp2_with fail;go_fit(zk _);rintro e w2 ⟨rfl,hbx⟩;have hb2:=eI hb hbx;clear hbx hb a0 c0 c1 c2 c3;go_wp2;go_ret;exact⟨D,hb2⟩
abbrev lE:=@underlying46
abbrev lU:=@underlying368
def kW:List aT:= [O aR 0,O aR 512,O aR 512,O aR 512]
theorem GV(gw gl B:Nat)(A:Option aW)(c:Nat)(w:aS)(hw:w.heap[gw]?=aE (aI #[O aR 0] 46))(hl:w.heap[gl]?=aE (aI #[aL A 4 c] 368))(h:Rd w B 1 A 4 c kW)(hB:B≤w.heap.size):
  aU bH 246 #[O Y 0,O Y 30,O Y 2,aK (aE ⟨gw,0,J⟩),aK (aE ⟨gl,0,J⟩)] w fun e w'=>e=aJ (aG aF)∧w'.heap[gw]?=aE (aI #[O aR 0] 46)∧Aw (fun k=>k=gw) w w':=by
 have c0:=bL (i:=0) (v:=O aR 0) hw D;have d0:=bL (i:=0) (v:=aL A 4 c) hl D;obtain⟨ad,x,rfl,hx,e0⟩:=h.one (k:=0) (by omega);obtain rfl:x=O aR 0:=by injection hx with hx;exact hx.symm
 have Kf:ad.block<w.heap.size:=by obtain⟨_,e,hb,_⟩:=h.at_ (by omega);injection e with e;rw[e];omega
 obtain⟨gj,_,Px,_,q0⟩:=h.one (k:=0) (by omega);injection Px with Px;rw[←Px] at q0;clear Px gj;obtain⟨g,off,sp⟩:=ad;have J7:=World.cell?_spot q0
 obtain rfl:sp=J:=by
  cases sp with
  |none=>rfl
  |some s=>simp[Addr.add] at J7
 rw[Addr.add_mid] at e0;have Kf:g<w.heap.size:=Kf;have NM:=bT hw;have gp:=bT hl;clear hx J7 h q0;go_enter func246,ntmps246;go_wp2_with fail;refine cQ (fun w'=>aV w.heap.size w w') aD [] (by kernel_rfl) (by kernel_rfl) ((bP _ _).drew) ?_;have hb:aV w.heap.size w w.drew:=(bP _ _).drew;generalize w.drew=w2 at*;refine cR lE D (fun w' hS=>((show aV _ w w' from hS).cell (p:=⟨gw,0,J⟩) NM).trans c0) hb D (by kernel_rfl) ?_;refine PT ?_;refine Ord.K ?_;refine Ord.K ?_;refine cR lU D (fun w' hS=>((show aV _ w w' from hS).cell (p:=⟨gl,0,J⟩) gp).trans d0) hb D (by kernel_rfl) ?_;refine PT ?_;refine Ord.K ?_;refine Ord.K ?_;refine cR lE D (fun w' hS=>((show aV _ w w' from hS).cell (p:=⟨g,off+0,J⟩) Kf).trans e0) hb D (by kernel_rfl) ?_;refine PT ?_;refine Ord.X ?_;go_wp2_with fail;go_fit(YD w2);rintro e w3 ⟨rfl,hbx⟩;have hb3:=eI hb hbx;go_wp2_with fail;refine cC hb3 (fun h=>by cases h) ?_;refine PT ?_;iterate 5 refine Ord.K ?_
 refine cV ?_;have hw3:=bV hw hb3 NM;have f0:=bZ (i:=0) hw3;have g0:=bL (i:=0) hw3 D;have kM:=cN (i:=0) hw3 (O aR 0);have haw:Aw (fun k=>k=gw) w (w3.setCell ⟨gw,0,J⟩ (O aR 0)):=(tO (U:=fun k=>k=gw) hb3 (fun k hk _=>hk)).trans (gO gw 0 (O aR 0));have HY:=bK (bO kM haw);clear kM haw hbx hb hw3;go_wp2;go_ret;exact⟨D,HY.out.1,HY.out.2⟩
theorem GB(gw gl B:Nat)(A:Option aW)(c:Nat)(w:aS)(hw:w.heap[gw]?=aE (aI #[O aR 0] 46))(hl:w.heap[gl]?=aE (aI #[aL A 4 c] 368))(h:Rd w B 1 A 4 c kW)(hB:B≤w.heap.size):
  aU bH 246 #[O Y 1,O Y 20,O Y 10,aK (aE ⟨gw,0,J⟩),aK (aE ⟨gl,0,J⟩)] w fun e w'=>e=aJ (aG aF)∧w'.heap[gw]?=aE (aI #[O aR 536870912] 46)∧Aw (fun k=>k=gw) w w':=by
 have c0:=bL (i:=0) (v:=O aR 0) hw D;have d0:=bL (i:=0) (v:=aL A 4 c) hl D;obtain⟨ad,x,rfl,hx,e0⟩:=h.one (k:=1) (by omega);obtain rfl:x=O aR 512:=by injection hx with hx;exact hx.symm
 have Kf:ad.block<w.heap.size:=by obtain⟨_,e,hb,_⟩:=h.at_ (by omega);injection e with e;rw[e];omega
 obtain⟨gj,_,Px,_,q0⟩:=h.one (k:=0) (by omega);injection Px with Px;rw[←Px] at q0;clear Px gj;obtain⟨g,off,sp⟩:=ad;have J7:=World.cell?_spot q0
 obtain rfl:sp=J:=by
  cases sp with
  |none=>rfl
  |some s=>simp[Addr.add] at J7
 rw[Addr.add_mid] at e0;have Kf:g<w.heap.size:=Kf;have NM:=bT hw;have gp:=bT hl;clear hx J7 h q0;go_enter func246,ntmps246;go_wp2_with fail;refine cQ (fun w'=>aV w.heap.size w w') aD [] (by kernel_rfl) (by kernel_rfl) ((bP _ _).drew) ?_;have hb:aV w.heap.size w w.drew:=(bP _ _).drew;generalize w.drew=w2 at*;refine cR lE D (fun w' hS=>((show aV _ w w' from hS).cell (p:=⟨gw,0,J⟩) NM).trans c0) hb D (by kernel_rfl) ?_;refine PT ?_;refine Ord.K ?_;refine Ord.K ?_;refine cR lU D (fun w' hS=>((show aV _ w w' from hS).cell (p:=⟨gl,0,J⟩) gp).trans d0) hb D (by kernel_rfl) ?_;refine PT ?_;refine Ord.K ?_;refine Ord.K ?_;refine cR lE D (fun w' hS=>((show aV _ w w' from hS).cell (p:=⟨g,off+1,J⟩) Kf).trans e0) hb D (by kernel_rfl) ?_;refine PT ?_;refine Ord.X ?_;go_wp2_with fail;go_fit(an w2);rintro e w3 ⟨rfl,hbx⟩;have hb3:=eI hb hbx;go_wp2_with fail;refine cC hb3 (fun h=>by cases h) ?_;refine PT ?_;iterate 5 refine Ord.K ?_
 refine cV ?_;have hw3:=bV hw hb3 NM;have f0:=bZ (i:=0) hw3;have g0:=bL (i:=0) hw3 D;have kM:=cN (i:=0) hw3 (O aR 536870912);have haw:Aw (fun k=>k=gw) w (w3.setCell ⟨gw,0,J⟩ (O aR 536870912)):=(tO (U:=fun k=>k=gw) hb3 (fun k hk _=>hk)).trans (gO gw 0 (O aR 536870912));have HY:=bK (bO kM haw);clear kM haw hbx hb hw3;go_wp2;go_ret;exact⟨D,HY.out.1,HY.out.2⟩
theorem GQ(gw gl B:Nat)(A:Option aW)(c:Nat)(w:aS)(hw:w.heap[gw]?=aE (aI #[O aR 536870912] 46))(hl:w.heap[gl]?=aE (aI #[aL A 4 c] 368))(h:Rd w B 1 A 4 c kW)(hB:B≤w.heap.size):
  aU bH 246 #[O Y 2,O Y 10,O Y 10,aK (aE ⟨gw,0,J⟩),aK (aE ⟨gl,0,J⟩)] w fun e w'=>e=aJ (aG aF)∧w'.heap[gw]?=aE (aI #[O aR 537395200] 46)∧Aw (fun k=>k=gw) w w':=by
 have c0:=bL (i:=0) (v:=O aR 536870912) hw D;have d0:=bL (i:=0) (v:=aL A 4 c) hl D;obtain⟨ad,x,rfl,hx,e0⟩:=h.one (k:=2) (by omega);obtain rfl:x=O aR 512:=by injection hx with hx;exact hx.symm
 have Kf:ad.block<w.heap.size:=by obtain⟨_,e,hb,_⟩:=h.at_ (by omega);injection e with e;rw[e];omega
 obtain⟨gj,_,Px,_,q0⟩:=h.one (k:=0) (by omega);injection Px with Px;rw[←Px] at q0;clear Px gj;obtain⟨g,off,sp⟩:=ad;have J7:=World.cell?_spot q0
 obtain rfl:sp=J:=by
  cases sp with
  |none=>rfl
  |some s=>simp[Addr.add] at J7
 rw[Addr.add_mid] at e0;have Kf:g<w.heap.size:=Kf;have NM:=bT hw;have gp:=bT hl;clear hx J7 h q0;go_enter func246,ntmps246;go_wp2_with fail;refine cQ (fun w'=>aV w.heap.size w w') aD [] (by kernel_rfl) (by kernel_rfl) ((bP _ _).drew) ?_;have hb:aV w.heap.size w w.drew:=(bP _ _).drew;generalize w.drew=w2 at*;refine cR lE D (fun w' hS=>((show aV _ w w' from hS).cell (p:=⟨gw,0,J⟩) NM).trans c0) hb D (by kernel_rfl) ?_;refine PT ?_;refine Ord.K ?_;refine Ord.K ?_;refine cR lU D (fun w' hS=>((show aV _ w w' from hS).cell (p:=⟨gl,0,J⟩) gp).trans d0) hb D (by kernel_rfl) ?_;refine PT ?_;refine Ord.K ?_;refine Ord.K ?_;refine cR lE D (fun w' hS=>((show aV _ w w' from hS).cell (p:=⟨g,off+2,J⟩) Kf).trans e0) hb D (by kernel_rfl) ?_;refine PT ?_;refine Ord.X ?_;go_wp2_with fail;go_fit(ZN w2);rintro e w3 ⟨rfl,hbx⟩;have hb3:=eI hb hbx;go_wp2_with fail;refine cC hb3 (fun h=>by cases h) ?_;refine PT ?_;iterate 5 refine Ord.K ?_
 refine cV ?_;have hw3:=bV hw hb3 NM;have f0:=bZ (i:=0) hw3;have g0:=bL (i:=0) hw3 D;have kM:=cN (i:=0) hw3 (O aR 537395200);have haw:Aw (fun k=>k=gw) w (w3.setCell ⟨gw,0,J⟩ (O aR 537395200)):=(tO (U:=fun k=>k=gw) hb3 (fun k hk _=>hk)).trans (gO gw 0 (O aR 537395200));have HY:=bK (bO kM haw);clear kM haw hbx hb hw3;go_wp2;go_ret;exact⟨D,HY.out.1,HY.out.2⟩
theorem JH(gw gl B:Nat)(A:Option aW)(c:Nat)(w:aS)(hw:w.heap[gw]?=aE (aI #[O aR 537395200] 46))(hl:w.heap[gl]?=aE (aI #[aL A 4 c] 368))(h:Rd w B 1 A 4 c kW)(hB:B≤w.heap.size):
  aU bH 246 #[O Y 3,O Y 0,O Y 10,aK (aE ⟨gw,0,J⟩),aK (aE ⟨gl,0,J⟩)] w fun e w'=>e=aJ (aG aF)∧w'.heap[gw]?=aE (aI #[O aR 537395712] 46)∧Aw (fun k=>k=gw) w w':=by
 have c0:=bL (i:=0) (v:=O aR 537395200) hw D;have d0:=bL (i:=0) (v:=aL A 4 c) hl D;obtain⟨ad,x,rfl,hx,e0⟩:=h.one (k:=3) (by omega);obtain rfl:x=O aR 512:=by injection hx with hx;exact hx.symm
 have Kf:ad.block<w.heap.size:=by obtain⟨_,e,hb,_⟩:=h.at_ (by omega);injection e with e;rw[e];omega
 obtain⟨gj,_,Px,_,q0⟩:=h.one (k:=0) (by omega);injection Px with Px;rw[←Px] at q0;clear Px gj;obtain⟨g,off,sp⟩:=ad;have J7:=World.cell?_spot q0
 obtain rfl:sp=J:=by
  cases sp with
  |none=>rfl
  |some s=>simp[Addr.add] at J7
 rw[Addr.add_mid] at e0;have Kf:g<w.heap.size:=Kf;have NM:=bT hw;have gp:=bT hl;clear hx J7 h q0;go_enter func246,ntmps246;go_wp2_with fail;refine cQ (fun w'=>aV w.heap.size w w') aD [] (by kernel_rfl) (by kernel_rfl) ((bP _ _).drew) ?_;have hb:aV w.heap.size w w.drew:=(bP _ _).drew;generalize w.drew=w2 at*;refine cR lE D (fun w' hS=>((show aV _ w w' from hS).cell (p:=⟨gw,0,J⟩) NM).trans c0) hb D (by kernel_rfl) ?_;refine PT ?_;refine Ord.K ?_;refine Ord.K ?_;refine cR lU D (fun w' hS=>((show aV _ w w' from hS).cell (p:=⟨gl,0,J⟩) gp).trans d0) hb D (by kernel_rfl) ?_;refine PT ?_;refine Ord.K ?_;refine Ord.K ?_;refine cR lE D (fun w' hS=>((show aV _ w w' from hS).cell (p:=⟨g,off+3,J⟩) Kf).trans e0) hb D (by kernel_rfl) ?_;refine PT ?_;refine Ord.X ?_;go_wp2_with fail;go_fit(nr w2);rintro e w3 ⟨rfl,hbx⟩;have hb3:=eI hb hbx;go_wp2_with fail;refine cC hb3 (fun h=>by cases h) ?_;refine PT ?_;iterate 5 refine Ord.K ?_
 refine cV ?_;have hw3:=bV hw hb3 NM;have f0:=bZ (i:=0) hw3;have g0:=bL (i:=0) hw3 D;have kM:=cN (i:=0) hw3 (O aR 537395712);have haw:Aw (fun k=>k=gw) w (w3.setCell ⟨gw,0,J⟩ (O aR 537395712)):=(tO (U:=fun k=>k=gw) hb3 (fun k hk _=>hk)).trans (gO gw 0 (O aR 537395712));have HY:=bK (bO kM haw);clear kM haw hbx hb hw3;go_wp2;go_ret;exact⟨D,HY.out.1,HY.out.2⟩
theorem OK(gs gw gl B:Nat)(A:Option aW)(c:Nat)(w:aS)(hs:w.heap[gs]?=aE (aI #[O Y 2,O Y 10,O Y 10,O Y 10] 3))(hw:w.heap[gw]?=aE (aI #[O aR 0] 46))(hl:w.heap[gl]?=aE (aI #[aL A 4 c] 368))(h:Rd w B 1 A 4 c kW)(hB:B≤w.heap.size)(n1:gs≠gw)(n2:gl≠gw)(n3: ∀p,A=aE p→p.block≠gw):
  aU bH 245 #[aL (aE ⟨gs,0,J⟩) 4 4,.func (.func 246) #[] #[aK (aE ⟨gw,0,J⟩),aK (aE ⟨gl,0,J⟩)]] w fun e w'=>e=aJ (aG aF)∧w'.heap[gw]?=aE (aI #[O aR 537395712] 46)∧Aw (fun k=>k=gw) w w':=by
 have HH:=bK (bO hw (bO hl h));have N3:=bK n3;have c0:=bL (i:=0) (v:=O Y 2) hs D;have c1:=bL (i:=1) (v:=O Y 10) hs D;have c2:=bL (i:=2) (v:=O Y 10) hs D;have c3:=bL (i:=3) (v:=O Y 10) hs D;clear hw hl h n3;go_enter func245,ntmps245;go_wp2_with fail;go_loopw [5,12] (fun l i wr=>w=wr∧((l=O Y 32∧i=O Y 0)∨(l=O Y 30∧i=O Y 1)∨(l=O Y 20∧i=O Y 2)∨(l=O Y 10∧i=O Y 3)∨(l=O Y 0∧i=O Y 4))) (fun _ i _=>4-(bE i).toNat);case atStart=>exact⟨D,.inl ⟨D,D⟩⟩
 case round=>
  obtain⟨rfl,⟨rfl,rfl⟩|⟨rfl,rfl⟩|⟨rfl,rfl⟩|⟨rfl,rfl⟩|⟨rfl,rfl⟩⟩:=hrel
  ·go_wp2;go_roundw;case rel=>simp
   case measure=>simp[bE]
  ·go_wp2;go_roundw;case rel=>simp
   case measure=>simp[bE]
  ·go_wp2;go_roundw;case rel=>simp
   case measure=>simp[bE]
  ·go_wp2;go_roundw;case rel=>simp
   case measure=>simp[bE]
  ·clear c0 c1 c2 c3;go_wp2_with fail;go_loopw [5,31] (fun l i wr=>Aw (fun k=>k=gw) w wr∧((l=O Y 32∧i=O Y 0∧wr.heap[gw]?=aE (aI #[O aR 0] 46))∨(l=O Y 30∧i=O Y 1∧wr.heap[gw]?=aE (aI #[O aR 0] 46))∨(l=O Y 20∧i=O Y 2∧wr.heap[gw]?=aE (aI #[O aR 536870912] 46))∨(l=O Y 10∧i=O Y 3∧wr.heap[gw]?=aE (aI #[O aR 537395200] 46))∨(l=O Y 0∧i=O Y 4∧wr.heap[gw]?=aE (aI #[O aR 537395712] 46)))) (fun _ i _=>4-(bE i).toNat);case atStart=>exact⟨cY _ _,.inl ⟨D,D,HH.out.1⟩⟩
   case round=>
    obtain⟨ha,hrel⟩:=hrel;have hs1:=ha.keep hs (by omega);have LZ:=ha.keep HH.out.2.1 (by omega);have hr1:=YI HH.out.2.2 hB ha (fun _ p hp hu=>N3.out p hp hu);have c0:=bL (i:=0) (v:=O Y 2) hs1 D;have c1:=bL (i:=1) (v:=O Y 10) hs1 D;have c2:=bL (i:=2) (v:=O Y 10) hs1 D;have c3:=bL (i:=3) (v:=O Y 10) hs1 D;have Ha:=bK ha;clear ha hs hs1;obtain⟨rfl,rfl,hw⟩|⟨rfl,rfl,hw⟩|⟨rfl,rfl,hw⟩|⟨rfl,rfl,hw⟩|⟨rfl,rfl,hw⟩:=hrel
    ·have HJ:=bK (GV gw gl wr.heap.size A c wr hw LZ hr1 (bM _));clear hw LZ hr1;go_wp2_with fail;go_fit HJ.out;rintro e w2 ⟨rfl,J4,hA2⟩;clear c0 c1 c2 c3;go_wp2;go_roundw;case rel=>exact⟨Ha.out.trans hA2,.inr (.inl ⟨D,D,J4⟩)⟩
     case measure=>simp[bE]
    ·have HJ:=bK (GB gw gl wr.heap.size A c wr hw LZ hr1 (bM _));clear hw LZ hr1;go_wp2_with fail;go_fit HJ.out;rintro e w2 ⟨rfl,J4,hA2⟩;clear c0 c1 c2 c3;go_wp2;go_roundw;case rel=>exact⟨Ha.out.trans hA2,.inr (.inr (.inl ⟨D,D,J4⟩))⟩
     case measure=>simp[bE]
    ·have HJ:=bK (GQ gw gl wr.heap.size A c wr hw LZ hr1 (bM _));clear hw LZ hr1;go_wp2_with fail;go_fit HJ.out;rintro e w2 ⟨rfl,J4,hA2⟩;clear c0 c1 c2 c3;go_wp2;go_roundw;case rel=>exact⟨Ha.out.trans hA2,.inr (.inr (.inr (.inl ⟨D,D,J4⟩)))⟩
     case measure=>simp[bE]
    ·have HJ:=bK (JH gw gl wr.heap.size A c wr hw LZ hr1 (bM _));clear hw LZ hr1;go_wp2_with fail;go_fit HJ.out;rintro e w2 ⟨rfl,J4,hA2⟩;clear c0 c1 c2 c3;go_wp2;go_roundw;case rel=>exact⟨Ha.out.trans hA2,.inr (.inr (.inr (.inr (⟨D,D,J4⟩))))⟩
     case measure=>simp[bE]
    ·clear c0 c1 c2 c3 LZ hr1;go_wp2;go_ret;exact⟨D,hw,Ha.out⟩
theorem ko(gs:Nat)(B:Nat)(A:Option aW)(c:Nat)(w:aS)(hs:w.heap[gs]?=aE (aI #[O Y 2,O Y 10,O Y 10,O Y 10] 3))(h:Rd w B 1 A 4 c kW)(hB:B≤w.heap.size):
  aU bH 206 #[aL (aE ⟨gs,0,J⟩) 4 4,aL A 4 c] w fun e w'=>e=aJ (aN #[O aR 537395712,aG aF])∧aV w.heap.size w w':=by
 obtain⟨a0,a1,iJ,hb⟩:=yZ w (aI #[aL A 4 c] 368) (aI #[O aR 0] 46);have hg:=bT hs;have hs2:=bV hs hb hg;have h2:=h.up (hb.mono hB);have EI: ∀p,A=aE p→p.block≠w.heap.size+1:=fun p hp=>by obtain⟨_,e,hb,_⟩:=h.at_ (by omega);rw[hp] at e;injection e with e;rw[e];omega
 have HP:=bK (OK gs (w.heap.size+1) w.heap.size B A c _ hs2 a1 a0 h2 (by omega) (by omega) (by omega) EI);have c0:=bL (i:=0) (v:=aL A 4 c) a0 D;clear hs a0 a1 hs2 h2 h EI;go_enter func206,ntmps206;go_wp2_with fail;go_fit HP.out;rintro e w2 ⟨rfl,J4,hA2⟩;have d0:=bL (i:=0) (v:=O aR 537395712) J4 D;have hb2:aV w.heap.size w w2:=⟨hA2.os.trans hb.os,hA2.tape.trans hb.tape,hA2.output.trans hb.output,bU hb.size hA2.size,fun k hk=>(hA2.block k (cI hk hb.size) (by omega)).trans (hb.block k hk)⟩;clear J4 hA2 hb c0 HP;go_wp2;go_ret2;exact⟨D,hb2⟩
end
section
open Go.RowKit Go.Shelf NumLaw
attribute [local go_sem] Addr.add_mid
def iw:List (Nat × Nat):= [(0,1),(1,2),(2,3)]
def nl(x:Nat × Nat):Array aT:= #[O Y (x.1:Int),O Y (x.2:Int)]
theorem Ql(g1 m:Nat):TB bH m 244 #[aK (aE ⟨g1,0,J⟩)] nl (fun k=>k=g1) (fun _=>False) iw (fun W=>W.heap[g1]?=aE (aI #[O Y 0] 3)):=by
 rintro l0 aB Jx W h1 hJ hJx hY h0;have Lk:Fence.wide.round=J:=D;refine callsIn_of_wp func244 D cM ?_ Lk;simp only[ntmps244,cG,List.length_cons,hH,Nat.reduceAdd,Nat.reduceSub,gH,gG,iQ,gR,eF,dS];gi_wp2_with fail;gi_loopw [3,5] (fun k i wr=>wr.heap[g1]?=aE (aI #[O Y 0] 3)∧((k=O Y 0∧i=O Y 0∧aB [] wr)∨(k=O Y 0∧i=O Y 1∧aB [] wr)∨(k=O Y 1∧i=O Y 2∧aB [(0,1)] wr)∨(k=O Y 2∧i=O Y 3∧aB [(0,1),(1,2)] wr)∨(k=O Y 3∧i=O Y 4∧aB [(0,1),(1,2),(2,3)] wr))) (fun _ i _=>4-(bE i).toNat);case atStart=>exact⟨h1,.inl ⟨D,D,h0⟩⟩
 case round=>
  clear h0 h1 W;obtain⟨h1,hrel⟩:=hrel;have c1:wr.cell? ⟨g1,0,J⟩=aE (O Y 0):=bL h1 D;obtain⟨rfl,rfl,hj⟩|⟨rfl,rfl,hj⟩|⟨rfl,rfl,hj⟩|⟨rfl,rfl,hj⟩|⟨rfl,rfl,hj⟩:=hrel
  ·have HJ:=bK (bO h1 hj);clear h1 hj;gi_wp2;go_roundw;case rel=>exact⟨HJ.out.1,.inr (.inl ⟨D,D,HJ.out.2⟩)⟩
   case measure=>simp[bE]
  ·have hpre: []++ [(0,1)]<+:iw:=⟨[(1,2),(2,3)],D⟩;obtain⟨fn,tmps,assign,body,hy,hR⟩:=hY [] (0,1) wr hj hpre;have HR:=bK hR;have hy:(Instr.yield l0 #[O Y 0,O Y 1]).run bH wr=_:=hy;have Hpre:=bK hpre;clear hR hj hpre;gi_wp2_with fail;refine⟨fun hd=>by simp[Fence.wide] at hd,HR.out.mono ?_⟩;rintro e W3 (⟨rfl,Ey,hk3⟩|⟨rfl,De⟩)
   ·have q1:=hk3.2 _ _ D h1;have HJ3:=bK Ey;clear hk3 hy HR c1 Ey;gi_wp2;go_roundw;case rel=>have Ey:=HJ3.out;exact⟨q1,.inr (.inr (.inl ⟨D,D,Ey⟩))⟩
    case measure=>simp[bE]
   ·clear hy HR c1;gi_wp2;refine bR (cT D _ _ _) D ?_;exact⟨⟨_,D⟩,.inr ⟨_,Hpre.out,De⟩⟩
  ·have hpre: [(0,1)]++ [(1,2)]<+:iw:=⟨[(2,3)],D⟩;obtain⟨fn,tmps,assign,body,hy,hR⟩:=hY [(0,1)] (1,2) wr hj hpre;have HR:=bK hR;have hy:(Instr.yield l0 #[O Y 1,O Y 2]).run bH wr=_:=hy;have Hpre:=bK hpre;clear hR hj hpre;gi_wp2_with fail;refine⟨fun hd=>by simp[Fence.wide] at hd,HR.out.mono ?_⟩;rintro e W3 (⟨rfl,Ey,hk3⟩|⟨rfl,De⟩)
   ·have q1:=hk3.2 _ _ D h1;have HJ3:=bK Ey;clear hk3 hy HR c1 Ey;gi_wp2;go_roundw;case rel=>have Ey:=HJ3.out;exact⟨q1,.inr (.inr (.inr (.inl ⟨D,D,Ey⟩)))⟩
    case measure=>simp[bE]
   ·clear hy HR c1;gi_wp2;refine bR (cT D _ _ _) D ?_;exact⟨⟨_,D⟩,.inr ⟨_,Hpre.out,De⟩⟩
  ·have hpre: [(0,1),(1,2)]++ [(2,3)]<+:iw:=⟨[],D⟩;obtain⟨fn,tmps,assign,body,hy,hR⟩:=hY [(0,1),(1,2)] (2,3) wr hj hpre;have HR:=bK hR;have hy:(Instr.yield l0 #[O Y 2,O Y 3]).run bH wr=_:=hy;have Hpre:=bK hpre;clear hR hj hpre;gi_wp2_with fail;refine⟨fun hd=>by simp[Fence.wide] at hd,HR.out.mono ?_⟩;rintro e W3 (⟨rfl,Ey,hk3⟩|⟨rfl,De⟩)
   ·have q1:=hk3.2 _ _ D h1;have HJ3:=bK Ey;clear hk3 hy HR c1 Ey;gi_wp2;go_roundw;case rel=>have Ey:=HJ3.out;exact⟨q1,.inr (.inr (.inr (.inr (⟨D,D,Ey⟩))))⟩
    case measure=>simp[bE]
   ·clear hy HR c1;gi_wp2;refine bR (cT D _ _ _) D ?_;exact⟨⟨_,D⟩,.inr ⟨_,Hpre.out,De⟩⟩
  ·clear c1;gi_wp2;go_end0;exact⟨⟨_,D⟩,.inl hj⟩
end
section
open Go.RowKit NumLaw
attribute [local go_sem] Addr.add_mid
theorem SP(w:aS):aU bH 39 #[] w fun e w'=>(∃g,e=aJ (aK (aE ⟨g,0,J⟩))∧w.heap.size≤g∧g<w'.heap.size)∧aV w.heap.size w w':=by
 go_enter func39,ntmps39;go_wp2;go_ret;exact⟨⟨w.heap.size,D,bM _,by simp⟩,(bP _ _).alloc (bM _) _⟩
theorem SC(w:aS):aU bH 40 #[] w fun e w'=>(∃g,e=aJ (aK (aE ⟨g,0,J⟩))∧w.heap.size≤g∧g<w'.heap.size)∧aV w.heap.size w w':=by
 go_enter func40,ntmps40;go_wp2;go_ret;exact⟨⟨w.heap.size,D,bM _,by simp⟩,(bP _ _).alloc (bM _) _⟩
theorem EV(w:aS):aU bH 38 #[] w fun e w'=>(∃g,e=aJ (aK (aE ⟨g,0,J⟩))∧w.heap.size≤g∧g<w'.heap.size)∧aV w.heap.size w w':=by
 have Tv: ∀(t:aY) (w:aS),(Instr.makeMap t J).run bH w= .ok (.map (aE w.heap.size)) (w.alloc (.map #[] 0)):=fun _ _=>rfl;go_enter func38,ntmps38;go_wp2;go_ret;exact⟨⟨w.heap.size+1,D,Nat.le_succ _,by simp⟩,((bP _ _).alloc (bM _) _).alloc (by simp) _⟩
theorem RD(w:aS):aU bH 37 #[] w fun e w'=>e=aJ (aK (aE ⟨w.heap.size+1,0,J⟩))∧w'=(w.alloc (.map #[] 0)).alloc (aI #[aL J 0 0,.map (aE w.heap.size)] 171):=by
 have Tv: ∀(t:aY) (w:aS),(Instr.makeMap t J).run bH w= .ok (.map (aE w.heap.size)) (w.alloc (.map #[] 0)):=fun _ _=>rfl;go_enter func37,ntmps37;go_wp2;go_ret;exact⟨by simp,D⟩
theorem zc(w:aS):aU bH 27 #[] w fun e w'=>e=aJ (aM #[O aO 1073741824,O aO 0,O aO 0,O aO 0])∧aV w.heap.size w w':=by
 have a0:=bS w (aI #[O aO 0,O aO 0,O aO 0,O aO 0] 40);have hb:aV w.heap.size w (w.alloc (aI #[O aO 0,O aO 0,O aO 0,O aO 0] 40)):=(bP _ _).alloc (bM _) _;have hb2:=below_setRow hb (bM _) (#[O aO 1073741824,O aO 0,O aO 0,O aO 0]:Array aT);have h2:=setRow_heap _ _ _ (#[O aO 1073741824,O aO 0,O aO 0,O aO 0]:Array aT) _ _ a0;have HY:=bK (bO a0 (bO hb2 h2));clear a0 hb hb2 h2;go_enter func27,ntmps27;go_wp2_with(with_reducible refine sG [40] ?_);obtain⟨a0,hb2,h2⟩:=HY.out;refine eL (wpList_store_row D _ _ _ D w.heap.size (#[O aO 1073741824,O aO 0,O aO 0,O aO 0]:Array aT) D D _ _ a0 (by kernel_rfl) D (by kernel_rfl) ?_);simp only[Act.put];repeat go_step
 exact bR (tW D _ _ w.heap.size _ _ _ _ D h2 underlying40 D (by kernel_rfl)) D ⟨D,hb2⟩
theorem TM(w:aS):aU bH 58 #[] w fun e w'=>(∃g,e=aJ (aK (aE ⟨g,0,J⟩))∧w.heap.size≤g∧g<w'.heap.size)∧aV w.heap.size w w':=by
 have wC: ∀w,(Instr.build 212 #[(0,aG aF)]).run bH w= .ok (aM (Tryz.zeroCells212.setIfInBounds 0 (aG aF)).toList.toArray) w:=fun w=>by kernel_rfl
 have HBD:=bK wC;clear wC;go_enter func58,ntmps58;go_wp2_with(with_reducible refine iB 212 ?_);refine eL (fR (parts:= #[(0,aG aF)]) (out:=(Tryz.zeroCells212.setIfInBounds 0 (aG aF)).toList) (by simp only[eG,eE,fK]<;>rfl) HBD.out ?_);clear HBD;generalize(Tryz.zeroCells212.setIfInBounds 0 (aG aF)).toList=L;go_wp2;go_ret;exact⟨⟨w.heap.size,D,bM _,by simp⟩,(bP _ _).alloc (bM _) _⟩
theorem SQ(w:aS):aU bH 36 #[] w fun e w'=>(∃gd g,e=aJ (aK (aE ⟨gd,0,J⟩))∧w.heap.size≤gd∧w'.heap[gd]?=aE (aI #[aK (aE ⟨g,0,J⟩),O Y 0,O Y 0,O Y 0,O Y 0,O Y 0,O Y 0,O Y 0,O Y 0,O Y 0,O Y 0,O Y 0,O Y 0,O Y 0] 165))∧aV w.heap.size w w':=by
 go_enter func36,ntmps36;go_wp2_with fail;go_fit(TM w);rintro e w2 ⟨⟨g,rfl,h1,h2⟩,hb⟩;go_wp2;go_ret;exact⟨⟨w2.heap.size,g,D,hb.size,bS w2 _⟩,hb.alloc hb.size _⟩
theorem Vf(gd g:Nat)(w:aS)(h:w.heap[gd]?=aE (aI #[aK (aE ⟨g,0,J⟩),O Y 0,O Y 0,O Y 0,O Y 0,O Y 0,O Y 0,O Y 0,O Y 0,O Y 0,O Y 0,O Y 0,O Y 0,O Y 0] 165)):aU bH 56 #[aK (aE ⟨gd,0,J⟩)] w fun e w'=>e=aJ (aG aF)∧w=w':=by
 have c0:=bL (i:=0) (v:=aK (aE ⟨g,0,J⟩)) h D;go_enter func56,ntmps56;go_wp2;go_ret;exact⟨D,D⟩
end
end Go.Proofs.YtfoabhdppkjmbaaGreat
