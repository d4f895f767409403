import Derived.Test.YtfoabhdppkjmbaaGreatKZ24
import Derived.Test.YtfoabhdppkjmbaaGreatKZ26
set_option linter.unusedSimpArgs false
set_option linter.unusedVariables false
set_option maxHeartbeats 8000000
set_option maxRecDepth 20000
namespace Go.Proofs.YtfoabhdppkjmbaaGreat
open Bool renaming false→aD,true→aF
open Go renaming Addr→aW,Calls→aU,Program→aZ,TypeId→aY,Value→aT,World→aS,maxLen→bB,typeInfo→bF
open Go.Ending renaming returned→aJ
open Go.IntKind renaming i64→Y
open Go.Obj renaming cells→aI
open Go.Proofs.Tryz renaming prog→bH
open Go.RowKit renaming Below→aV,intOf→bE
open Go.Value renaming agg→aM,bool→aG,int→O,slice→aL,string→aH
open Option renaming none→J,some→aE
open Go.Proofs.Tryz
namespace NumLaw
end NumLaw
section
open Go.RowKit NumLaw
attribute [local go_sem] Addr.add_mid
attribute [-go_sem] run_eql_struct run_neq_struct
abbrev sZ:=@underlying289
theorem sO{P:aZ}{t:aY}{fs:Array Field}{k:Nat}(hu:P.underlying t=aE (.struct fs))(hs:(P.info? t).map (·.size)=aE k)(cs:Array aT)(o:Nat)(w:aS):(part t cs o).run P w= .ok (aM (cs.extract o (o+k))) w:=by
 cases hi:P.info? t with
 |none=>rw[hi] at hs;cases hs
 |some i=>
  rw[hi] at hs;injection hs with hs;subst hs;unfold part;simp[isAgg,dE hu,sizeOf,bF,hi]
theorem Bd(d:Nat)(b:Bool)(z:Int)(w:aS):(Op.equalIn (d+2) 69 (aM #[aG b,O Y z]) (aM #[aG b,O Y z])).run bH w= .ok aF w:=by
 rw[gY w (d+1) _ _ _ (by simp only[Program.fieldsOf,cK]) (by kernel_rfl)];simp[Program.fieldsOf,cK,Op.eqFields,part,gX w _ _ _ _ _ _ cO,kF w _ _ _ _ eM]
theorem H8(d:Nat)(b:Bool)(x y z u:Int)(w:aS):(Op.equalIn (d+2) 67 (aM #[aG b,O Y x,O Y y,O Y z,O Y u]) (aM #[aG b,O Y x,O Y y,O Y z,O Y u])).run bH w= .ok aF w:=by
 rw[gY w (d+1) _ _ _ (by simp only[Program.fieldsOf,fN]) (by kernel_rfl)];simp[Program.fieldsOf,fN,Op.eqFields,part,gX w _ _ _ _ _ _ cO,kF w _ _ _ _ eM]
theorem H9(d:Nat)(b:Bool)(x y z:Int)(w:aS):(Op.equalIn (d+2) 73 (aM #[aG b,O Y x,O Y y,O Y z]) (aM #[aG b,O Y x,O Y y,O Y z])).run bH w= .ok aF w:=by
 rw[gY w (d+1) _ _ _ (by simp only[Program.fieldsOf,jF]) (by kernel_rfl)];simp[Program.fieldsOf,jF,Op.eqFields,part,gX w _ _ _ _ _ _ cO,kF w _ _ _ _ eM]
def zg(L:List aT):Prop:= ∃b x y z u,L=Jl b x y z u
def DtX(L:List aT):Prop:= ∃b x y z,L=P1 b x y z
def Zx(L:List aT):Prop:= ∃ck b c d e f g i k m,zg ck∧L=ck++tR b++tR c++ [O Y d]++tR e++tR f++tR g++tR i++tR k++tR m
def Zy(L:List aT):Prop:= ∃ck b c d e f h dt,zg ck∧DtX dt∧L=ck++ [aG b]++tR c++tR d++tR e++tR f++tR h++dt
def Fk(L:List aT):Prop:= ∃a b c d,L=tR a++tR b++tR c++tR d
def GI(L:List aT):Prop:= ∃a b c,L=tR a++tR b++tR c
theorem Qs(s:ByteArray):zg (mZ s).1:=by
 unfold mZ
 repeat' split
 all_goals exact⟨_,_,_,_,_,D⟩
theorem KZ(s:ByteArray):DtX (rU s).1:=by
 unfold rU
 repeat' split
 all_goals exact⟨_,_,_,_,D⟩
theorem bl(l:List ByteArray):Zx (p9 l).1:=by
 have h0:Zx gg0:=⟨P2,_,_,_,_,_,_,_,_,_,⟨_,_,_,_,_,D⟩,D⟩;have hS:Zx (D7 l).1:=⟨_,_,_,_,_,_,_,_,_,_,Qs _,D⟩;unfold p9;split
 ·simp only;split
  ·exact hS
  ·exact h0
 ·exact h0
theorem YU(l:List ByteArray):Zy (zW l).1:=by
 have h0:Zy rm0:=⟨P2,_,_,_,_,_,_,KO,⟨_,_,_,_,_,D⟩,⟨_,_,_,_,D⟩,D⟩;have hS:Zy (Dz l).1:=⟨_,_,_,_,_,_,_,_,Qs _,KZ _,D⟩;unfold zW;split
 ·simp only;split
  ·exact hS
  ·exact h0
 ·exact h0
theorem ay(l:List ByteArray):Fk (zV l).1:=by
 have h0:Fk vt0:=⟨_,_,_,_,D⟩;have hS:Fk (Gv l).1:=⟨_,_,_,_,D⟩;unfold zV;split
 ·simp only;split
  ·exact hS
  ·exact h0
 ·exact h0
theorem XV(l:List ByteArray):GI (zL l).1.dops:=by
 have h0:GI gs0.dops:=⟨_,_,_,D⟩;have hS:GI (Gw l).1.dops:=⟨_,_,_,D⟩;unfold zL;split
 ·simp only;split
  ·exact hS
  ·exact h0
 ·exact h0
theorem Yb: ∀(n:Nat) (st:kY),∀r∈(lM n st).1,Fk r
 |0,st,r,h=>by cases h
 |n+1,st,r,h=>by
  unfold lM at h;split at h
  ·cases h
  ·rcases List.mem_cons.1 h with rfl|h
   ·exact⟨_,_,_,_,D⟩
   ·exact Yb n _ r h
theorem YB(l:List ByteArray): ∀r∈(xR l).1.l,Fk r:=by
 unfold xR;split
 ·simp only;split
  ·unfold K7;exact Yb _ _
  ·intro r h;cases h
 ·intro r h;cases h
structure NR(V:En):Prop where
 g:Zx V.gga
 r:Zy V.rmc
 s:GI V.gsa.dops
 v:Fk V.vtg
 q: ∀r∈V.gsv.l,Fk r
theorem nm0_x:NR nm0:=⟨⟨P2,_,_,_,_,_,_,_,_,_,⟨_,_,_,_,_,D⟩,D⟩,⟨P2,_,_,_,_,_,_,KO,⟨_,_,_,_,_,D⟩,⟨_,_,_,_,D⟩,D⟩,⟨_,_,_,D⟩,⟨_,_,_,_,D⟩,fun r h=>by cases h⟩
theorem ku(S:Cz):NR (o7 S):=by
 unfold o7;split
 ·unfold Ai;split
  ·exact⟨bl S.f,nm0_x.r,nm0_x.s,nm0_x.v,nm0_x.q⟩
  ·split
   ·exact⟨nm0_x.g,YU S.f,nm0_x.s,nm0_x.v,nm0_x.q⟩
   ·split
    ·exact⟨nm0_x.g,nm0_x.r,XV S.f,nm0_x.v,nm0_x.q⟩
    ·split
     ·exact⟨nm0_x.g,nm0_x.r,nm0_x.s,ay S.f,nm0_x.q⟩
     ·exact⟨nm0_x.g,nm0_x.r,nm0_x.s,nm0_x.v,YB S.f⟩
 ·exact nm0_x
theorem ZF(t:List UInt8):NR (Da t):=by
 unfold Da;split
 ·exact ku _
 ·exact nm0_x
theorem YV(L:List aT)(h:Zx L)(w:aS):(Op.equalIn 10000 71 (.agg L.toArray) (.agg L.toArray)).run bH w= .ok aF w:=by
 obtain⟨_,b,c,d,e,f,g,i,k,m,⟨_,_,_,_,_,rfl⟩,rfl⟩:=h;have hN:=fun cs o w=>sO (P:=bH) cK (k:=2) (by kernel_rfl) cs o w;have hC:=fun cs o w=>sO (P:=bH) fN (k:=5) (by kernel_rfl) cs o w;have hD:=fun cs o w=>sO (P:=bH) jF (k:=4) (by kernel_rfl) cs o w;have hB: ∀(cs:Array aT) (o:Nat) (v:aT) (w:aS),cs[o]?=aE v→(part 4 cs o).run bH w= .ok v w:=fun cs o v w h=>by simp[part,isAgg,dE eM,h]
 have hI: ∀(cs:Array aT) (o:Nat) (v:aT) (w:aS),cs[o]?=aE v→(part 2 cs o).run bH w= .ok v w:=fun cs o v w h=>by simp[part,isAgg,dE cO,h]
 rw[gY w 9999 _ _ _ (by simp only[Program.fieldsOf,jG]) (by kernel_rfl)];simp[Jl,P1,tR,Program.fieldsOf,jG,Op.eqFields,hN,hC,hD,hB,hI,Bd,H8,H9,gX w _ _ _ _ _ _ cO,kF w _ _ _ _ eM]
theorem bn(L:List aT)(h:Zy L)(w:aS):(Op.equalIn 10000 75 (.agg L.toArray) (.agg L.toArray)).run bH w= .ok aF w:=by
 obtain⟨_,b,c,d,e,f,i,_,⟨_,_,_,_,_,rfl⟩,⟨_,_,_,_,rfl⟩,rfl⟩:=h;have hN:=fun cs o w=>sO (P:=bH) cK (k:=2) (by kernel_rfl) cs o w;have hC:=fun cs o w=>sO (P:=bH) fN (k:=5) (by kernel_rfl) cs o w;have hD:=fun cs o w=>sO (P:=bH) jF (k:=4) (by kernel_rfl) cs o w;have hB: ∀(cs:Array aT) (o:Nat) (v:aT) (w:aS),cs[o]?=aE v→(part 4 cs o).run bH w= .ok v w:=fun cs o v w h=>by simp[part,isAgg,dE eM,h]
 have hI: ∀(cs:Array aT) (o:Nat) (v:aT) (w:aS),cs[o]?=aE v→(part 2 cs o).run bH w= .ok v w:=fun cs o v w h=>by simp[part,isAgg,dE cO,h]
 rw[gY w 9999 _ _ _ (by simp only[Program.fieldsOf,jE]) (by kernel_rfl)];simp[Jl,P1,tR,Program.fieldsOf,jE,Op.eqFields,hN,hC,hD,hB,hI,Bd,H8,H9,gX w _ _ _ _ _ _ cO,kF w _ _ _ _ eM]
theorem ZT(L:List aT)(h:Fk L)(w:aS):(Op.equalIn 10000 79 (.agg L.toArray) (.agg L.toArray)).run bH w= .ok aF w:=by
 obtain⟨a,b,c,d,rfl⟩:=h;have hN:=fun cs o w=>sO (P:=bH) cK (k:=2) (by kernel_rfl) cs o w;have hC:=fun cs o w=>sO (P:=bH) fN (k:=5) (by kernel_rfl) cs o w;have hD:=fun cs o w=>sO (P:=bH) jF (k:=4) (by kernel_rfl) cs o w;have hB: ∀(cs:Array aT) (o:Nat) (v:aT) (w:aS),cs[o]?=aE v→(part 4 cs o).run bH w= .ok v w:=fun cs o v w h=>by simp[part,isAgg,dE eM,h]
 have hI: ∀(cs:Array aT) (o:Nat) (v:aT) (w:aS),cs[o]?=aE v→(part 2 cs o).run bH w= .ok v w:=fun cs o v w h=>by simp[part,isAgg,dE cO,h]
 rw[gY w 9999 _ _ _ (by simp only[Program.fieldsOf,jD]) (by kernel_rfl)];simp[Jl,P1,tR,Program.fieldsOf,jD,Op.eqFields,hN,hC,hD,hB,hI,Bd,H8,H9,gX w _ _ _ _ _ _ cO,kF w _ _ _ _ eM]
theorem QM(L:List aT)(h:Fk L)(w:aS):(Op.equalIn 10000 289 (.agg L.toArray) (.agg L.toArray)).run bH w= .ok aF w:=by
 obtain⟨a,b,c,d,rfl⟩:=h;have hN:=fun cs o w=>sO (P:=bH) cK (k:=2) (by kernel_rfl) cs o w;have hC:=fun cs o w=>sO (P:=bH) fN (k:=5) (by kernel_rfl) cs o w;have hD:=fun cs o w=>sO (P:=bH) jF (k:=4) (by kernel_rfl) cs o w;have hB: ∀(cs:Array aT) (o:Nat) (v:aT) (w:aS),cs[o]?=aE v→(part 4 cs o).run bH w= .ok v w:=fun cs o v w h=>by simp[part,isAgg,dE eM,h]
 have hI: ∀(cs:Array aT) (o:Nat) (v:aT) (w:aS),cs[o]?=aE v→(part 2 cs o).run bH w= .ok v w:=fun cs o v w h=>by simp[part,isAgg,dE cO,h]
 rw[gY w 9999 _ _ _ (by simp only[Program.fieldsOf,sZ]) (by kernel_rfl)];simp[Jl,P1,tR,Program.fieldsOf,sZ,Op.eqFields,hN,hC,hD,hB,hI,Bd,H8,H9,gX w _ _ _ _ _ _ cO,kF w _ _ _ _ eM]
theorem V2(L:List aT)(h:Fk L)(w:aS):(binOp .neq 289 (.agg L.toArray) (.agg L.toArray)).run bH w= .ok (aG aD) w:=by
 rw[run_neq_struct,QM L h w];rfl
theorem IQ(L:List aT)(h:Zx L)(w:aS):(binOp .eql 71 (.agg L.toArray) (.agg L.toArray)).run bH w= .ok (aG aF) w:=by
 rw[mB,YV L h w];rfl
theorem LK(L:List aT)(h:Zy L)(w:aS):(binOp .eql 75 (.agg L.toArray) (.agg L.toArray)).run bH w= .ok (aG aF) w:=by
 rw[mB,bn L h w];rfl
theorem KU(L:List aT)(h:Fk L)(w:aS):(binOp .eql 79 (.agg L.toArray) (.agg L.toArray)).run bH w= .ok (aG aF) w:=by
 rw[mB,ZT L h w];rfl
theorem JF(b:Bool)(z:Int)(w:aS):(binOp .eql 69 (aM #[aG b,O Y z]) (aM #[aG b,O Y z])).run bH w= .ok (aG aF) w:=by
 rw[mB,Bd 9998];rfl
theorem Az{w:aS}{g e o:Nat}{L:List aT}{fr:Nat × Nat}(h:w.heap[g]?=aE (aI L.toArray e fr))(pre mid post:List aT)(hL:L=pre++(mid++post))(ho:pre.length=o):w.rangeAt g o mid:=
 jT h o (fun j v hv=>by
  have hj:j<mid.length:=(List.getElem?_eq_some_iff.1 hv).1;rw[dO,hL,dG (by omega),show o+j-pre.length=j by omega,eX hj]
  exact hv)
theorem Zm(A A':Option aW)(n c c':Nat)(l:List (List aT))(w:aS)(h:RdR w w.heap.size 8 A n c l)(h':RdR w w.heap.size 8 A' n c' l)(hx: ∀r∈l,Fk r):
  aU bH 108 #[aL A n c,aL A' n c'] w fun e w'=>e=aJ (aG aF)∧aV w.heap.size w w':=by
 have hle:=h.2.2.1;have hmx:=h.2.2.2.1;have VF:=h'.2.2.1;have Pv:=h'.2.2.2.1;unfold bB at hmx Pv;have Hx:=bK hx;clear hx;go_enter func108,ntmps108;go_wp2_with fail;go_loopw [5] (fun i wr=> ∃(k:Nat),k≤n∧i=O Y k∧aV w.heap.size w wr) (fun i _=>n-(bE i).toNat);case atStart=>exact⟨0,by omega,D,bP _ _⟩
 case round=>
  obtain⟨k,hk,rfl,hbr⟩:=hrel;by_cases fF:k<n
  ·obtain⟨ga,off,rr,rfl,An,hx,Ce,hrow⟩:=h.at_ fF;obtain⟨gb,Xj,ye,rfl,EJ,Kr,Pw,Ah⟩:=h'.at_ fF;rw[hx] at Kr;injection Kr with Kr;subst Kr;have hne:=V2 rr (Hx.out rr (dD hx));have R1:=bK hrow;have R2:=bK Ah;have Hrl:=bK Ce;clear hx Ce Pw hrow Ah;go_wp2_with fail;refine cQ (fun w'=>aV w.heap.size w w') aD [] (by kernel_rfl) (by kernel_rfl) hbr.drew ?_;replace hbr:=hbr.drew;generalize wr.drew=wd at*;iterate 3 refine Ord.K ?_
   refine eA sZ D (by rw[Hrl.out];kernel_rfl) D (by intro e;have:=Hrl.out;rw[e] at this;cases this) (fun w' hS j v hv=>((show aV _ w w' from hS).cell (p:=⟨ga,off+k*8+j,J⟩) An).trans (R1.out j v hv)) hbr (by kernel_rfl) ?_;refine PT ?_;iterate 3 refine Ord.K ?_
   refine eA sZ D (by rw[Hrl.out];kernel_rfl) D (by intro e;have:=Hrl.out;rw[e] at this;cases this) (fun w' hS j v hv=>((show aV _ w w' from hS).cell (p:=⟨gb,Xj+k*8+j,J⟩) EJ).trans (R2.out j v hv)) hbr (by kernel_rfl) ?_;refine PT ?_;refine Ord.K ?_;refine cV ?_;clear hne;go_wp2;go_roundw;case rel=>exact⟨k+1,by omega,by go_num,hbr⟩
   case measure=>simp[bE];omega
  ·obtain rfl:k=n:=by omega
   go_wp2;go_ret;exact⟨D,hbr⟩
theorem GR(v:Oe)(A A':Option aW)(n c c':Nat)(w:aS)(h:RdR w w.heap.size 8 A n c v.l)(h':RdR w w.heap.size 8 A' n c' v.l)(hx: ∀r∈v.l,Fk r):
  aU bH 74 #[aM (Gl v A n c).toArray,aM (Gl v A' n c').toArray] w fun e w'=>e=aJ (aG aF)∧aV w.heap.size w w':=by
 obtain⟨total,no,seen,l⟩:=v;simp only at h h' hx;simp only[Gl];obtain⟨a0,a1,hs,hb⟩:=yZ w (aI #[O Y total,O Y no,O Y seen,aL A n c] 82) (aI #[O Y total,O Y no,O Y seen,aL A' n c'] 82);have c0:=bL (i:=0) (v:=O Y total) a0 D;have c1:=bL (i:=1) (v:=O Y no) a0 D;have c2:=bL (i:=2) (v:=O Y seen) a0 D;have c3:=bL (i:=3) (v:=aL A n c) a0 D;have d0:=bL (i:=0) (v:=O Y total) a1 D;have d1:=bL (i:=1) (v:=O Y no) a1 D;have d2:=bL (i:=2) (v:=O Y seen) a1 D;have d3:=bL (i:=3) (v:=aL A' n c') a1 D;have HV:=bK (Zm A A' n c c' l _ ((h.up hb).more hb.size) ((h'.up hb).more hb.size) hx);clear a0 a1 hs h h' hx;go_enter func74,ntmps74;go_wp2_with fail;go_fit HV.out;rintro e w2 ⟨rfl,hb2⟩;replace hb:=eI hb hb2;clear hb2 HV c0 c1 c2 c3 d0 d1 d2 d3;go_wp2;go_ret;exact⟨D,hb⟩
theorem JX(v:N5)(hd:GI v.dops)(A A':Option aW)(n c c':Nat)(w:aS)(h:Rd w w.heap.size 1 A n c (v.ids.map (Value.int Y)))(h':Rd w w.heap.size 1 A' n c' (v.ids.map (Value.int Y))):
  aU bH 73 #[aM (C8 v A n c).toArray,aM (C8 v A' n c').toArray] w fun e w'=>e=aJ (aG aF)∧aV w.heap.size w w':=by
 obtain⟨auto,fix,ids,dops⟩:=v;obtain⟨⟨b1,x1⟩,⟨b2,x2⟩,⟨b3,x3⟩,hde⟩:=hd;simp only at h h' hde;subst hde;simp only[C8,tR,dS,eF];obtain⟨a0,a1,hs,hb⟩:=yZ w (aI #[aG auto,O Y fix,aL A n c,aG b1,O Y x1,aG b2,O Y x2,aG b3,O Y x3] 77) (aI #[aG auto,O Y fix,aL A' n c',aG b1,O Y x1,aG b2,O Y x2,aG b3,O Y x3] 77);have c0:=bL (i:=0) (v:=aG auto) a0 D;have c1:=bL (i:=1) (v:=O Y fix) a0 D;have c2:=bL (i:=2) (v:=aL A n c) a0 D;have c3:=bL (i:=3) (v:=aG b1) a0 D;have c4:=bL (i:=4) (v:=O Y x1) a0 D;have c5:=bL (i:=5) (v:=aG b2) a0 D;have c6:=bL (i:=6) (v:=O Y x2) a0 D;have c7:=bL (i:=7) (v:=aG b3) a0 D;have c8:=bL (i:=8) (v:=O Y x3) a0 D;have d0:=bL (i:=0) (v:=aG auto) a1 D;have d1:=bL (i:=1) (v:=O Y fix) a1 D;have d2:=bL (i:=2) (v:=aL A' n c') a1 D;have d3:=bL (i:=3) (v:=aG b1) a1 D;have d4:=bL (i:=4) (v:=O Y x1) a1 D;have d5:=bL (i:=5) (v:=aG b2) a1 D;have d6:=bL (i:=6) (v:=O Y x2) a1 D;have d7:=bL (i:=7) (v:=aG b3) a1 D;have d8:=bL (i:=8) (v:=O Y x3) a1 D;have hN:=JF;have HV:=bK (fun(w':aS) (hw:aV w.heap.size w w')=>Rf A n c w.heap.size ids A' n c' w.heap.size ids w' (h.up hw) hw.size (h'.up hw) hw.size);have ga:=bT a0;have gb:=bT a1;have Ha:=bK (bO a0 a1);clear a0 a1 hs h h';go_enter func73,ntmps73;go_wp2_with fail;go_fit(HV.out _ hb);rintro e w2 ⟨rfl,hb2⟩;simp only[decide_true];have a0:=bV Ha.out.1 hb2 ga;have a1:=bV Ha.out.2 hb2 gb;replace hb:=eI hb hb2;clear hb2 HV Ha ga gb c0 c1 c2 c3 c4 c5 c6 c7 c8 d0 d1 d2 d3 d4 d5 d6 d7 d8;have c3:=bL (i:=3) (v:=aG b1) a0 D;have c4:=bL (i:=4) (v:=O Y x1) a0 D;have c5:=bL (i:=5) (v:=aG b2) a0 D;have c6:=bL (i:=6) (v:=O Y x2) a0 D;have c7:=bL (i:=7) (v:=aG b3) a0 D;have c8:=bL (i:=8) (v:=O Y x3) a0 D;have d3:=bL (i:=3) (v:=aG b1) a1 D;have d4:=bL (i:=4) (v:=O Y x1) a1 D;have d5:=bL (i:=5) (v:=aG b2) a1 D;have d6:=bL (i:=6) (v:=O Y x2) a1 D;have d7:=bL (i:=7) (v:=aG b3) a1 D;have d8:=bL (i:=8) (v:=O Y x3) a1 D;clear a0 a1;go_wp2;go_ret;exact⟨D,hb⟩
theorem Vh(V:En)(a a':Kh)(w:aS)(hok:NmOk V)(hx:NR V)(h:NmR w w.heap.size V a)(h':NmR w w.heap.size V a'):
  aU bH 45 #[aM (iE V a).toArray,aM (iE V a').toArray] w fun e w'=>e=aJ (aG aF)∧aV w.heap.size w w':=by
 obtain⟨x0,x1,hs,hb⟩:=yZ w (aI (iE V a).toArray 84) (aI (iE V a').toArray 84);have hA:NmB ((w.alloc (aI (iE V a).toArray 84)).alloc (aI (iE V a').toArray 84)) w.heap.size V a:=x0;have hB:NmB ((w.alloc (aI (iE V a).toArray 84)).alloc (aI (iE V a').toArray 84)) (w.heap.size+1) V a':=x1;have hr:=(h.up hb).more hb.size;have hr':=(h'.up hb).more hb.size;have hn:a.n=a'.n:=by have e1:=h.s.len;have e2:=h'.s.len;omega
 have DA:a.n'=a'.n':=by have e1:=h.q.1;have e2:=h'.q.1;omega
 have hqg:=IQ V.gga hx.g;have hqr:=LK V.rmc hx.r;have uc:=KU V.vtg hx.v;have HS:=bK (fun w1 (h1:NmR w1 w1.heap.size V a) (h2:NmR w1 w1.heap.size V a')=>JX V.gsa hx.s a.A a'.A a.n a.c a'.c w1 h1.s (by rw[hn];exact h2.s));have HQ:=bK (fun w1 (h1:NmR w1 w1.heap.size V a) (h2:NmR w1 w1.heap.size V a')=>GR V.gsv a.A' a'.A' a.n' a.c' a'.c' w1 h1.q (by rw[DA];exact h2.q) hx.q);rw[show C8 V.gsa a'.A a.n a'.c=C8 V.gsa a'.A a'.n a'.c by rw[hn]] at HS;rw[show Gl V.gsv a'.A' a.n' a'.c'=Gl V.gsv a'.A' a'.n' a'.c' by rw[DA]] at HQ;have yN:=hok.g.1;have Ce:=hok.r.1;have LW:=hok.v.1;have Kl: ∀(A:Option aW) (n c:Nat),(C8 V.gsa A n c).length=9:=fun A n c=>by simp[C8,hok.s.1]
 have HI:Hid ((Tryz.prog.info? 71).map (·.size)=aE V.gga.length∧(Tryz.prog.info? 75).map (·.size)=aE V.rmc.length∧(Tryz.prog.info? 79).map (·.size)=aE V.vtg.length):=bK ⟨by rw[yN];kernel_rfl,by rw[Ce];kernel_rfl,by rw[LW];kernel_rfl⟩;have HIs:Hid (∀(A:Option aW) (n c:Nat),(Tryz.prog.info? 77).map (·.size)=aE (C8 V.gsa A n c).length):=bK (fun A n c=>by rw[Kl];kernel_rfl)
 have Rg:Hid (∀(wx:aS) (g:Nat) (y:Kh),NmB wx g V y→wx.rangeAt g 2 V.gga∧wx.rangeAt g 24 V.rmc∧wx.rangeAt g 44 (C8 V.gsa y.A y.n y.c)∧wx.rangeAt g 53 V.vtg∧wx.rangeAt g 61 (Gl V.gsv y.A' y.n' y.c')∧wx.cell? ⟨g,0,J⟩=aE (O Y (V.k:Int))∧wx.cell? ⟨g,1,J⟩=aE (aH V.tk)):=bK (fun wx g y hy=>
  ⟨Az hy [O Y (V.k:Int),aH V.tk] V.gga (V.rmc++(C8 V.gsa y.A y.n y.c++(V.vtg++Gl V.gsv y.A' y.n' y.c'))) (by simp[iE]) D,
   Az hy ([O Y (V.k:Int),aH V.tk]++V.gga) V.rmc (C8 V.gsa y.A y.n y.c++(V.vtg++Gl V.gsv y.A' y.n' y.c')) (by simp[iE]) (by simp[yN]),
   Az hy ([O Y (V.k:Int),aH V.tk]++(V.gga++V.rmc)) (C8 V.gsa y.A y.n y.c) (V.vtg++Gl V.gsv y.A' y.n' y.c') (by simp[iE]) (by simp[yN,Ce]),
   Az hy ([O Y (V.k:Int),aH V.tk]++(V.gga++(V.rmc++C8 V.gsa y.A y.n y.c))) V.vtg (Gl V.gsv y.A' y.n' y.c') (by simp[iE]) (by simp[yN,Ce,Kl]),
   Az hy ([O Y (V.k:Int),aH V.tk]++(V.gga++(V.rmc++(C8 V.gsa y.A y.n y.c++V.vtg)))) (Gl V.gsv y.A' y.n' y.c') [] (by simp[iE]) (by simp[yN,Ce,Kl,LW]),
   bL (i:=0) hy D,bL (i:=1) hy D⟩)
 clear x0 x1 h h' yN Ce LW Kl hn DA hx hok hs;go_enter func45,ntmps45;go_wp2_with(with_reducible refine xM 3 ?_);generalize((w.alloc (aI (iE V a).toArray 84)).alloc (aI (iE V a').toArray 84))=w1 at*;obtain⟨r2,yf,yg,yh,yi,c0,c1⟩:=Rg.out _ _ _ hA;obtain⟨s2,yj,yk,yl,ym,d0,d1⟩:=Rg.out _ _ _ hB;have R1:=bK (bO r2 (bO yf yg));have S1:=bK (bO s2 (bO yj yk));clear r2 yf yg yh yi s2 yj yk yl ym;refine eL ?_;go_wp2_with(with_reducible refine sG [71,75,77,79,82] ?_);refine eL (dY (by kernel_rfl) _ _ D (w.heap.size) 2 D _ _ (R1.out.1) jG D (HI.out.1) ?_);go_wp2_with(with_reducible refine sG [71,75,77,79,82] ?_);refine eL (dY (by kernel_rfl) _ _ D (w.heap.size+1) 2 D _ _ (S1.out.1) jG D (HI.out.1) ?_);go_wp2_with(with_reducible refine sG [71,75,77,79,82] ?_);refine eL (dY (by kernel_rfl) _ _ D (w.heap.size) 24 D _ _ (R1.out.2.1) jE D (HI.out.2.1) ?_);go_wp2_with(with_reducible refine sG [71,75,77,79,82] ?_);refine eL (dY (by kernel_rfl) _ _ D (w.heap.size+1) 24 D _ _ (S1.out.2.1) jE D (HI.out.2.1) ?_);go_wp2_with(with_reducible refine sG [71,75,77,79,82] ?_);refine eL (dY (by kernel_rfl) _ _ D (w.heap.size) 44 D _ _ (R1.out.2.2) lD D (HIs.out _ _ _) ?_);go_wp2_with(with_reducible refine sG [71,75,77,79,82] ?_);refine eL (dY (by kernel_rfl) _ _ D (w.heap.size+1) 44 D _ _ (S1.out.2.2) lD D (HIs.out _ _ _) ?_);go_wp2_with fail;go_fit(HS.out w1 hr hr');rintro e w2 ⟨rfl,hb2⟩;have hA2:NmB w2 _ _ _:=bV hA hb2 (bT hA);have hB2:NmB w2 _ _ _:=bV hB hb2 (bT hB);replace hr:=hr.nx hb2;replace hr':=hr'.nx hb2;replace hb:=eI hb hb2;obtain⟨r2,yf,yg,yh,yi,e0,e1⟩:=Rg.out _ _ _ hA2;obtain⟨s2,yj,yk,yl,ym,f0,f1⟩:=Rg.out _ _ _ hB2;have R2:=bK (bO yh yi);have S2:=bK (bO yl ym);clear hb2 c0 c1 d0 d1 R1 S1 hA hB hA2 hB2 r2 yf yg yh yi s2 yj yk yl ym e0 e1 f0 f1 Rg HS hqg hqr;go_wp2_with(with_reducible refine sG [71,75,77,79,82] ?_);refine eL (dY (by kernel_rfl) _ _ D (w.heap.size) 53 D _ _ (R2.out.1) jD D (HI.out.2.2) ?_);go_wp2_with(with_reducible refine sG [71,75,77,79,82] ?_);refine eL (dY (by kernel_rfl) _ _ D (w.heap.size+1) 53 D _ _ (S2.out.1) jD D (HI.out.2.2) ?_)
 go_wp2_with(with_reducible refine sG [71,75,77,79,82] ?_);refine eL (dY (by kernel_rfl) _ _ D (w.heap.size) 61 D _ _ (R2.out.2) jC D (by kernel_rfl) ?_);go_wp2_with(with_reducible refine sG [71,75,77,79,82] ?_);refine eL (dY (by kernel_rfl) _ _ D (w.heap.size+1) 61 D _ _ (S2.out.2) jC D (by kernel_rfl) ?_);go_wp2_with fail;go_fit(HQ.out w2 hr hr');rintro e w3 ⟨rfl,hb3⟩;replace hb:=eI hb hb3;clear hb3 R2 S2 hr hr' HQ uc;go_wp2;go_ret;exact⟨D,hb⟩
theorem Um{proto n e:Nat}{x:wX}(h:NR x.n):NR (sA proto n e x).it.n:=by
 unfold sA
 repeat' split
 ·exact nm0_x
 ·exact h
 ·exact nm0_x
 ·exact nm0_x
theorem mv(b:List UInt8):NR (wK b).it.n:=by
 unfold wK;split
 ·exact nm0_x
 ·repeat' split
  ·exact nm0_x
  ·exact Um nm0_x
  ·exact Um (ZF _)
  ·exact Um nm0_x
theorem Uf(x:wX)(a a':yB)(w:aS)(hok:ItOk x)(hx:NR x.n)(h:ItR w w.heap.size x a)(h':ItR w w.heap.size x a'):
  aU bH 26 #[aM (jR x a).toArray,aM (jR x a').toArray] w fun e w'=>e=aJ (aG aF)∧aV w.heap.size w w':=by
 obtain⟨x0,x1,hs,hb⟩:=yZ w (aI (jR x a).toArray 86) (aI (jR x a').toArray 86);have hA:KI ((w.alloc (aI (jR x a).toArray 86)).alloc (aI (jR x a').toArray 86)) w.heap.size x a:=x0;have hB:KI ((w.alloc (aI (jR x a).toArray 86)).alloc (aI (jR x a').toArray 86)) (w.heap.size+1) x a':=x1;have hr:=(h.up hb).more hb.size;have hr':=(h'.up hb).more hb.size;have yn: ∀b:Nj,(kC x.u b).length=48:=fun b=>o9 hok.u.1 hok.u.2;have XM:=fun b=>hok.n.len b;have Kl: ∀s∈x.u.l,s.length=7:=fun s hs=>by have:=h.u.s.2.1 _ (List.mem_map_of_mem hs);simpa [I9] using this
 have HU:=bK (fun w1 (h1:ItR w1 w1.heap.size x a) (h2:ItR w1 w1.heap.size x a')=>Uc x.u a.u a'.u w1 hok.u.1 hok.u.2 Kl h1.u h2.u);have HN:=bK (fun w1 (h1:ItR w1 w1.heap.size x a) (h2:ItR w1 w1.heap.size x a')=>Vh x.n a.n a'.n w1 hok.n hx h1.n h2.n);have Tv:a.m=a'.m:=by have e1:=h.p.len;have e2:=h'.p.len;omega
 have HP:=bK (fun w1 (h1:ItR w1 w1.heap.size x a) (h2:ItR w1 w1.heap.size x a')=>AF x.p.sq x.p.sy x.p.co x.p.id a.A a.m a.c a'.A a'.m a'.c x.p.v w1 h1.p h2.p);have HI:Hid (∀b:Nj,(Tryz.prog.info? 65).map (·.size)=aE (kC x.u b).length):=bK (fun b=>by rw[yn];kernel_rfl);have HIn:Hid (∀b:Kh,(Tryz.prog.info? 84).map (·.size)=aE (iE x.n b).length):=bK (fun b=>by rw[XM];kernel_rfl)
 have Rg:Hid (∀(wx:aS) (g:Nat) (y:yB),KI wx g x y→wx.rangeAt g 2 (kC x.u y.u)∧wx.rangeAt g 50 (iE x.n y.n)∧wx.rangeAt g 115 (Mx x.p y.A y.m y.c)∧wx.cell? ⟨g,0,J⟩=aE (O Y (x.proto:Int))∧wx.cell? ⟨g,1,J⟩=aE (aG x.odd)):=bK (fun wx g y hy=>
  ⟨Az hy [O Y (x.proto:Int),aG x.odd] (kC x.u y.u) (iE x.n y.n++Mx x.p y.A y.m y.c) (by simp[jR]) D,
   Az hy ([O Y (x.proto:Int),aG x.odd]++kC x.u y.u) (iE x.n y.n) (Mx x.p y.A y.m y.c) (by simp[jR]) (by simp[yn]),
   Az hy ([O Y (x.proto:Int),aG x.odd]++(kC x.u y.u++iE x.n y.n)) (Mx x.p y.A y.m y.c) [] (by simp[jR]) (by simp[yn,XM]),
   bL (i:=0) hy D,bL (i:=1) hy D⟩)
 clear x0 x1 h h' yn XM Kl Tv hx hok hs;go_enter func26,ntmps26;go_wp2_with(with_reducible refine xM 3 ?_);generalize((w.alloc (aI (jR x a).toArray 86)).alloc (aI (jR x a').toArray 86))=w1 at*;obtain⟨r2,ka,EC,c0,c1⟩:=Rg.out _ _ _ hA;obtain⟨s2,kb,ED,d0,d1⟩:=Rg.out _ _ _ hB;have R1:=bK r2;have S1:=bK s2;clear r2 ka EC s2 kb ED;refine eL ?_;go_wp2_with(with_reducible refine sG [65,84,51] ?_);refine eL (dY (by kernel_rfl) _ _ D (w.heap.size) 2 D _ _ (R1.out) eJ D (HI.out _) ?_);go_wp2_with(with_reducible refine sG [65,84,51] ?_);refine eL (dY (by kernel_rfl) _ _ D (w.heap.size+1) 2 D _ _ (S1.out) eJ D (HI.out _) ?_);go_wp2_with fail;go_fit(HU.out w1 hr hr');rintro e w2 ⟨rfl,hb2⟩;replace hA:KI w2 _ _ _:=bV hA hb2 (bT hA);replace hB:KI w2 _ _ _:=bV hB hb2 (bT hB);replace hr:=hr.nx hb2;replace hr':=hr'.nx hb2;replace hb:=eI hb hb2;obtain⟨r2,ka,EC,e0,e1⟩:=Rg.out _ _ _ hA;obtain⟨s2,kb,ED,f0,f1⟩:=Rg.out _ _ _ hB;clear c0 c1 d0 d1;have R2:=bK ka;have S2:=bK kb;clear hb2 HU r2 ka EC s2 kb ED e0 e1 f0 f1;go_wp2_with(with_reducible refine sG [65,84,51] ?_);refine eL (dY (by kernel_rfl) _ _ D (w.heap.size) 50 D _ _ (R2.out) dJ D (HIn.out _) ?_);go_wp2_with(with_reducible refine sG [65,84,51] ?_);refine eL (dY (by kernel_rfl) _ _ D (w.heap.size+1) 50 D _ _ (S2.out) dJ D (HIn.out _) ?_);go_wp2_with fail;go_fit(HN.out w2 hr hr');rintro e w3 ⟨rfl,hb2⟩;replace hA:KI w3 _ _ _:=bV hA hb2 (bT hA);replace hB:KI w3 _ _ _:=bV hB hb2 (bT hB);replace hr:=hr.nx hb2;replace hr':=hr'.nx hb2;replace hb:=eI hb hb2;obtain⟨r2,ka,EC,e0,e1⟩:=Rg.out _ _ _ hA;obtain⟨s2,kb,ED,f0,f1⟩:=Rg.out _ _ _ hB;have R3:=bK EC;have S3:=bK ED;clear hb2 HN r2 ka EC s2 kb ED e0 e1 f0 f1;go_wp2_with(with_reducible refine sG [65,84,51] ?_);refine eL (dY (by kernel_rfl) _ _ D (w.heap.size) 115 D _ _ (R3.out) underlying51 D (by kernel_rfl) ?_);go_wp2_with(with_reducible refine sG [65,84,51] ?_);refine eL (dY (by kernel_rfl) _ _ D (w.heap.size+1) 115 D _ _ (S3.out) underlying51 D (by kernel_rfl) ?_);simp only[Mx];go_wp2_with fail
 go_fit(HP.out w3 hr hr');rintro e w4 ⟨rfl,hb4⟩;replace hb:=eI hb hb4;clear hb4 hA hB hr hr' HP;go_wp2;go_ret;exact⟨D,hb⟩
theorem Zo(A A':Option aW)(n c c':Nat)(G G':List (wX × yB))(w:aS)(h:RdR w w.heap.size 120 A n c (G.map fun g=>jR g.1 g.2))(h':RdR w w.heap.size 120 A' n c' (G'.map fun g=>jR g.1 g.2))(he:G.map Prod.fst=G'.map Prod.fst)
  (hG: ∀g∈G,ItR w w.heap.size g.1 g.2∧ItOk g.1∧NR g.1.n) (hG': ∀g∈G',ItR w w.heap.size g.1 g.2):
  aU bH 8 #[aL A n c,aL A' n c'] w fun e w'=>e=aJ (aG aF)∧aV w.heap.size w w':=by
 have hle:=h.2.2.1;have hmx:=h.2.2.2.1;have VF:=h'.2.2.1;have Pv:=h'.2.2.2.1;unfold bB at hmx Pv;have HG:=bK (bO hG (bO hG' he));clear hG hG' he;go_enter func8,ntmps8;go_wp2_with fail;go_loopw [5] (fun i wr=> ∃(k:Nat),k≤n∧i=O Y k∧aV w.heap.size w wr) (fun i _=>n-(bE i).toNat);case atStart=>exact⟨0,by omega,D,bP _ _⟩
 case round=>
  obtain⟨k,hk,rfl,hbr⟩:=hrel;by_cases fF:k<n
  ·obtain⟨ga,off,rr,rfl,An,hx,Ce,hrow⟩:=h.at_ fF;obtain⟨gb,Xj,ye,rfl,EJ,Kr,Pw,Ah⟩:=h'.at_ fF;obtain⟨g,hg,rfl⟩: ∃g,G[k]?=aE g∧jR g.1 g.2=rr:=by simpa using hx
   obtain⟨g',jc,rfl⟩: ∃g,G'[k]?=aE g∧jR g.1 g.2=ye:=by simpa using Kr
   have jw:g.1=g'.1:=by
    have h1:(G.map Prod.fst)[k]?=aE g.1:=by rw[eN,hg];rfl
    have h2:(G'.map Prod.fst)[k]?=aE g'.1:=by rw[eN,jc];rfl
    rw[HG.out.2.2,h2] at h1;injection h1 with h1;exact h1.symm
   obtain⟨k1,k2,k3⟩:=HG.out.1 g (dD hg);have k4:=HG.out.2.1 g' (dD jc);obtain⟨x,ya⟩:=g;obtain⟨x',yb⟩:=g';simp only at jw;subst jw;simp only at k1 k2 k3 k4 hrow Ah Ce Pw;have HK:=bK (fun w1 (hb1:aV w.heap.size w w1)=>Uf x ya yb w1 k2 k3 ((k1.up hb1).more hb1.size) ((k4.up hb1).more hb1.size));have R1:=bK hrow;have R2:=bK Ah;have Hrl:=bK (bO Ce Pw);clear hx Kr hg jc Ce Pw hrow Ah k1 k2 k3 k4;go_wp2_with fail;refine cQ (fun w'=>aV w.heap.size w w') aD [] (by kernel_rfl) (by kernel_rfl) hbr.drew ?_;replace hbr:=hbr.drew;generalize wr.drew=wd at*;iterate 3 refine Ord.K ?_
   refine eA eC D (by rw[Hrl.out.1];kernel_rfl) D (by intro e;have:=Hrl.out.1;rw[e] at this;cases this) (fun w' hS j v hv=>((show aV _ w w' from hS).cell (p:=⟨ga,off+k*120+j,J⟩) An).trans (R1.out j v hv)) hbr (by kernel_rfl) ?_;refine PT ?_;iterate 3 refine Ord.K ?_
   refine eA eC D (by rw[Hrl.out.2];kernel_rfl) D (by intro e;have:=Hrl.out.2;rw[e] at this;cases this) (fun w' hS j v hv=>((show aV _ w w' from hS).cell (p:=⟨gb,Xj+k*120+j,J⟩) EJ).trans (R2.out j v hv)) hbr (by kernel_rfl) ?_;refine PT ?_;refine Ord.X ?_;go_wp2_with fail;go_fit(HK.out wd hbr);rintro e w6 ⟨rfl,hb6⟩;replace hbr:=eI hbr hb6;go_wp2_with fail;refine cC hbr (fun h=>by cases h) ?_;refine PT ?_;refine Ord.K ?_;refine cV ?_;clear hb6;go_wp2;go_roundw;case rel=>exact⟨k+1,by omega,by go_num,hbr⟩
   case measure=>simp[bE];omega
  ·obtain rfl:k=n:=by omega
   go_wp2;go_ret;exact⟨D,hbr⟩
end
end Go.Proofs.YtfoabhdppkjmbaaGreat
