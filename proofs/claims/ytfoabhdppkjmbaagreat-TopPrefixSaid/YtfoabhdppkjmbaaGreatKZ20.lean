import Derived.Test.YtfoabhdppkjmbaaGreatKZ15
import Derived.Lib.ConvBytes
import Derived.Lib.BufferOwn
set_option linter.unusedSimpArgs false
set_option linter.unusedVariables false
set_option maxHeartbeats 8000000
set_option maxRecDepth 20000
namespace Go.Proofs.YtfoabhdppkjmbaaGreat
open Bool renaming false→aD,true→aF
open Go renaming Addr→aW,Calls→aU,TypeId→aY,Value→aT,World→aS,maxLen→bB
open Go.Ending renaming returned→aJ
open Go.IntKind renaming i64→Y,u8→aP
open Go.Obj renaming cells→aI
open Go.Proofs.Tryz renaming prog→bH
open Go.RowKit renaming Below→aV,intOf→bE
open Go.Value renaming agg→aM,bool→aG,int→O,slice→aL,string→aH,tuple→aN
open Option renaming none→J,some→aE
open Go.Proofs.Tryz
namespace NumLaw
end NumLaw
section
open Go.RowKit NumLaw
attribute [local go_sem] Addr.add_mid
theorem Pa(id:Int):(id=0∧mW id=wg)∨(id=1∧mW id=wi)∨(id=2∧mW id=vw)∨(id=4∧mW id=wj)∨(id=24∧mW id=OT)∨(id=25∧mW id=RF)∨(id=26∧mW id=OY)∨(id=27∧mW id=TG)∨(id=28∧mW id=RM)∨(id=33∧mW id=OP)∨(id=35∧mW id=TL)∨(id=36∧mW id=TF)∨(id=42∧mW id=PB)∨(id=44∧mW id=QW)∨(id=47∧mW id=PC)∨(id=66∧mW id=PQ)∨(id=77∧mW id=OL)∨(id=111∧mW id=X9)∨(id=125∧mW id=Xy)∨(id=200∧mW id=Yp)∨(id=201∧mW id=X6)∨(id=202∧mW id=X0)∨(mW id=wY∧¬id=0∧¬id=1∧¬id=2∧¬id=4∧¬id=24∧¬id=25∧¬id=26∧¬id=27∧¬id=28∧¬id=33∧¬id=35∧¬id=36∧¬id=42∧¬id=44∧¬id=47∧¬id=66∧¬id=77∧¬id=111∧¬id=125∧¬id=200∧¬id=201∧¬id=202):=by
 by_cases h0:id=0
 ·subst h0;exact(.inl ⟨D,by rfl⟩)
 by_cases h1:id=1
 ·subst h1;exact .inr ((.inl ⟨D,by rfl⟩))
 by_cases h2:id=2
 ·subst h2;exact .inr (.inr ((.inl ⟨D,by rfl⟩)))
 by_cases h4:id=4
 ·subst h4;exact .inr (.inr (.inr ((.inl ⟨D,by rfl⟩))))
 by_cases DP:id=24
 ·subst DP;exact .inr (.inr (.inr (.inr ((.inl ⟨D,by rfl⟩)))))
 by_cases MN:id=25
 ·subst MN;exact .inr (.inr (.inr (.inr (.inr ((.inl ⟨D,by rfl⟩))))))
 by_cases MO:id=26
 ·subst MO;exact .inr (.inr (.inr (.inr (.inr (.inr ((.inl ⟨D,by rfl⟩)))))))
 by_cases MP:id=27
 ·subst MP;exact .inr (.inr (.inr (.inr (.inr (.inr (.inr ((.inl ⟨D,by rfl⟩))))))))
 by_cases MQ:id=28
 ·subst MQ;exact .inr (.inr (.inr (.inr (.inr (.inr (.inr (.inr ((.inl ⟨D,by rfl⟩)))))))))
 by_cases UN:id=33
 ·subst UN;exact .inr (.inr (.inr (.inr (.inr (.inr (.inr (.inr (.inr ((.inl ⟨D,by rfl⟩))))))))))
 by_cases UO:id=35
 ·subst UO;exact .inr (.inr (.inr (.inr (.inr (.inr (.inr (.inr (.inr (.inr ((.inl ⟨D,by rfl⟩)))))))))))
 by_cases Xb:id=36
 ·subst Xb;exact .inr (.inr (.inr (.inr (.inr (.inr (.inr (.inr (.inr (.inr (.inr ((.inl ⟨D,by rfl⟩))))))))))))
 by_cases Gb:id=42
 ·subst Gb;exact .inr (.inr (.inr (.inr (.inr (.inr (.inr (.inr (.inr (.inr (.inr (.inr ((.inl ⟨D,by rfl⟩)))))))))))))
 by_cases UP:id=44
 ·subst UP;exact .inr (.inr (.inr (.inr (.inr (.inr (.inr (.inr (.inr (.inr (.inr (.inr (.inr ((.inl ⟨D,by rfl⟩))))))))))))))
 by_cases UQ:id=47
 ·subst UQ;exact .inr (.inr (.inr (.inr (.inr (.inr (.inr (.inr (.inr (.inr (.inr (.inr (.inr (.inr ((.inl ⟨D,by rfl⟩)))))))))))))))
 by_cases US:id=66
 ·subst US;exact .inr (.inr (.inr (.inr (.inr (.inr (.inr (.inr (.inr (.inr (.inr (.inr (.inr (.inr (.inr ((.inl ⟨D,by rfl⟩))))))))))))))))
 by_cases UU:id=77
 ·subst UU;exact .inr (.inr (.inr (.inr (.inr (.inr (.inr (.inr (.inr (.inr (.inr (.inr (.inr (.inr (.inr (.inr ((.inl ⟨D,by rfl⟩)))))))))))))))))
 by_cases Pn:id=111
 ·subst Pn;exact .inr (.inr (.inr (.inr (.inr (.inr (.inr (.inr (.inr (.inr (.inr (.inr (.inr (.inr (.inr (.inr (.inr ((.inl ⟨D,by rfl⟩))))))))))))))))))
 by_cases Po:id=125
 ·subst Po;exact .inr (.inr (.inr (.inr (.inr (.inr (.inr (.inr (.inr (.inr (.inr (.inr (.inr (.inr (.inr (.inr (.inr (.inr ((.inl ⟨D,by rfl⟩)))))))))))))))))))
 by_cases Pp:id=200
 ·subst Pp;exact .inr (.inr (.inr (.inr (.inr (.inr (.inr (.inr (.inr (.inr (.inr (.inr (.inr (.inr (.inr (.inr (.inr (.inr (.inr ((.inl ⟨D,by rfl⟩))))))))))))))))))))
 by_cases Pq:id=201
 ·subst Pq;exact .inr (.inr (.inr (.inr (.inr (.inr (.inr (.inr (.inr (.inr (.inr (.inr (.inr (.inr (.inr (.inr (.inr (.inr (.inr (.inr ((.inl ⟨D,by rfl⟩)))))))))))))))))))))
 by_cases Pr:id=202
 ·subst Pr;exact .inr (.inr (.inr (.inr (.inr (.inr (.inr (.inr (.inr (.inr (.inr (.inr (.inr (.inr (.inr (.inr (.inr (.inr (.inr (.inr (.inr ((.inl ⟨D,by rfl⟩))))))))))))))))))))))
 refine .inr (.inr (.inr (.inr (.inr (.inr (.inr (.inr (.inr (.inr (.inr (.inr (.inr (.inr (.inr (.inr (.inr (.inr (.inr (.inr (.inr ((.inr ⟨?_,h0,h1,h2,h4,DP,MN,MO,MP,MQ,UN,UO,Xb,Gb,UP,UQ,US,UU,Pn,Po,Pp,Pq,Pr⟩))))))))))))))))))))));unfold mW FD JW EW IY;simp only[h0,h1,h2,h4,DP,MN,MO,MP,MQ,UN,UO,Xb,Gb,UP,UQ,US,UU,Pn,Po,Pp,Pq,Pr,sD];rfl
end
section
open Go.RowKit NumLaw
instance :DecidableEq PtT:=fun a b=>decidable_of_iff (a.nm=b.nm∧a.sz=b.sz∧a.sg=b.sg∧a.mn=b.mn) (by cases a;cases b;simp)
end
section
open Go.RowKit NumLaw
attribute [local go_sem] Addr.add_mid
attribute [-go_sem] run_eql_struct run_neq_struct
theorem FW{α:Type}{L L':List α}{k:Nat}{x y:α}(hx:L[k]?=aE x)(hy:L'[k]?=aE y)(h: ¬x=y): ¬L=L':=fun e=>h (by rw[e,hy] at hx;injection hx with hx;exact hx.symm)
theorem RJ(m:Int):(if 1>m then(1:Int) else m)=(B2 m:Int):=by
 unfold B2;by_cases h:m<1
 ·rw[bY h,bY (show 1>m from h)];rfl
 ·rw[bX h,bX (show¬1>m from h)];omega
theorem Gm(p:PtT)(w:aS):aU bH 252 #[aM (pH p).toArray] w fun e w'=>e=aJ (O Y (B2 p.mn:Int))∧aV w.heap.size w w':=by
 obtain⟨s,z,g,m⟩:=p;have hb:=(bP w.heap.size w).alloc (bM _) (aI #[aH s,O Y z,aG g,O Y m] 448);have a0:=bS w (aI #[aH s,O Y z,aG g,O Y m] 448);have k0:=bL (i:=3) (v:=O Y m) a0 D;have hm:=RJ m;show aU _ _ #[aM #[aH s,O Y z,aG g,O Y m]] _ _;have Hm:=bK hm;clear hm;by_cases hc:m<1
 ·have hv:(B2 m:Int)=1:=by rw[←Hm.out,bY (show 1>m from hc)]
  have Hv:=bK hv;clear hv;go_enter func252,ntmps252;go_wp2;go_ret;exact⟨by show _=Ending.returned (O Y (B2 m:Int));rw[Hv.out];first|rfl|(show Ending.returned (O Y (max m 1))=_;rw[show max m 1=(1:Int) by omega]),hb⟩
 ·have hv:(B2 m:Int)=m:=by rw[←Hm.out,bX (show¬1>m from hc)]
  have Hv:=bK hv;clear hv;go_enter func252,ntmps252;go_wp2;go_ret;exact⟨by show _=Ending.returned (O Y (B2 m:Int));rw[Hv.out];first|rfl|(show Ending.returned (O Y (max m 1))=_;rw[show max m 1=m by omega]),hb⟩
theorem V0(p:PtT)(hq:Tt p.sz)(hm:B2 p.mn≤1000)(w:aS):aU bH 285 #[aM (pH p).toArray] w fun e w'=>e=aJ (O Y ((p.sz.toNat*B2 p.mn:Nat):Int))∧aV w.heap.size w w':=by
 have tm:=fun w=>Gm p w;obtain⟨s,z,g,m⟩:=p;have hq:Tt z:=hq;have hm:B2 m≤1000:=hm;obtain⟨zn,hzn⟩: ∃zn:Nat,z=zn:=⟨z.toNat,by rcases hq with rfl|rfl|rfl|rfl<;>rfl⟩;have hz8:zn≤8:=by rcases hq with h|h|h|h<;>omega
 subst hzn;obtain⟨mm,Tv⟩: ∃v,v=B2 m:=⟨_,D⟩;have XH: ∀w,aU bH 252 #[aM (pH ⟨s,(zn:Int),g,m⟩).toArray] w fun e w'=>e=aJ (O Y (mm:Int))∧aV w.heap.size w w':=fun w=>by rw[Tv];exact tm w
 show aU _ _ #[aM #[aH s,O Y (zn:Int),aG g,O Y m]] _ (fun e w'=>e=aJ (O Y ((zn*B2 m:Nat):Int))∧aV w.heap.size w w');rw[←Tv] at hm ⊢;have hmul:zn*mm≤8000:=bU (Nat.mul_le_mul hz8 hm) (by omega);have Hnum:=bK XH;have hb:=(bP w.heap.size w).alloc (bM _) (aI #[aH s,O Y (zn:Int),aG g,O Y m] 448);have a0:=bS w (aI #[aH s,O Y (zn:Int),aG g,O Y m] 448);have xo:IntKind.i64.wrap ((zn:Int)*(mm:Int))=((zn*mm:Nat):Int):=by rw[←pS];generalize zn*mm=d at*;exact fV _ (by omega)
 have Hww:=bK xo;clear tm XH Tv hq hmul xo;go_enter func285,ntmps285;go_wp2_with fail;generalize(w.alloc (aI #[aH s,O Y (zn:Int),aG g,O Y m] 448))=w1 at*;have fF:=bT a0;refine cQ (fun w'=>aV w1.heap.size w1 w') aD [] (by kernel_rfl) (by kernel_rfl) (bP _ _).drew ?_;have hS:aV w1.heap.size w1 w1.drew:=(bP _ _).drew;generalize w1.drew=wd at*;have hrow:w1.rangeAt w.heap.size 0 (pH ⟨s,(zn:Int),g,m⟩):=fun j v hv=>bL (i:=0+j) a0 (by rw[fZ];simpa [pH] using hv);have MY: ∀w',aV w1.heap.size w1 w'→w'.rangeAt w.heap.size 0 (pH ⟨s,(zn:Int),g,m⟩):=fun w' hb' j v hv=>(hb'.cell (p:=⟨w.heap.size,0+j,J⟩) fF).trans (hrow j v hv);have aCa: ∀w',aV w1.heap.size w1 w'→w'.cell? ⟨w.heap.size,1,J⟩=aE (O Y (zn:Int)):=fun w' hb'=>MY w' hb' 1 _ D;refine Ord.K ?_;refine cR (ad:=⟨w.heap.size,1,J⟩) (v:=O Y (zn:Int)) dB D (fun w' hS=>aCa w' hS) hS D (by kernel_rfl) ?_;refine PT ?_;refine eA (cs:=pH ⟨s,(zn:Int),g,m⟩) (b:=w.heap.size) (o:=0) nE D (by kernel_rfl) D (by simp[pH]) (fun w' hS=>MY w' hS) hS (by kernel_rfl) ?_;refine PT ?_;refine Ord.X ?_;go_wp2_with fail;go_fit(Hnum.out wd);rintro e w2 ⟨rfl,hbx⟩;replace hS:=eI hS hbx;go_wp2_with fail;refine cC hS (fun h=>by cases h) ?_;refine PT ?_;have xo:=Hww.out;refine Ord.e_p (v:=O Y ((zn*mm:Nat):Int)) D (by kernel_rfl) (fun w2=>by go_simp) ?_;refine PT ?_;clear xo;refine Ord.K ?_;refine cV ?_;have hbf:=eI hb hS;go_wp2;go_ret;exact⟨D,hbf⟩
def mj(L:List PtT):Prop:=(∀p∈L,Tt p.sz)∧L.length≤100∧∀p∈L,B2 p.mn≤100
theorem GF(f:PtT→Nat)(b:Nat): ∀L:List PtT,(∀p∈L,f p≤b)→(L.map f).foldl (· + ·) 0≤b*L.length
 | [],_=>fT _
 |p::L,h=>by have ih:=GF f b L (fun q hq=>h q (dV _ hq));have hp:=h p cP;rw[eE,gL,vB,List.length_cons,Nat.mul_succ];omega
theorem cj{z:Int}(h:Tt z):z.toNat≤8:=by rcases h with rfl|rfl|rfl|rfl<;>decide
theorem mr(L:List PtT)(h:mj L)(k:Nat):Gp (L.take k)≤8000*100:=by
 have:=GF (fun p=>p.sz.toNat*B2 p.mn) 8000 (L.take k) (fun p hp=>by
  have hp:=mD hp
  exact bU (Nat.mul_le_mul (cj (h.1 p hp)) (h.2.2 p hp)) (by omega))
 unfold Gp;have hl:(L.take k).length≤100:=by rw[fH];have:=h.2.1;omega
 have:=Nat.mul_le_mul_left 8000 hl;omega
theorem Qu(id:Int):mj (mW id).2:=by
 have hN: ∀L:List PtT,(L.all fun p=>(p.sz==8||p.sz==4||p.sz==2||p.sz==1) && decide (B2 p.mn≤100))=aF→L.length≤100→mj L:=fun L h hl=>by
  rw[vE] at h;refine⟨fun p hp=> ?_,hl,fun p hp=> ?_⟩
  ·have:=h p hp;simp only[dP,mK,mI] at this;rcases this.1 with((h|h)|h)|h
   ·exact .inl h
   ·exact .inr (.inl h)
   ·exact .inr (.inr (.inl h))
   ·exact .inr (.inr (.inr h))
  ·have:=h p hp;simp only[dP,iP] at this;exact this.2
 rcases Pa id with⟨_,hf⟩|⟨_,hf⟩|⟨_,hf⟩|⟨_,hf⟩|⟨_,hf⟩|⟨_,hf⟩|⟨_,hf⟩|⟨_,hf⟩|⟨_,hf⟩|⟨_,hf⟩|⟨_,hf⟩|⟨_,hf⟩|⟨_,hf⟩|⟨_,hf⟩|⟨_,hf⟩|⟨_,hf⟩|⟨_,hf⟩|⟨_,hf⟩|⟨_,hf⟩|⟨_,hf⟩|⟨_,hf⟩|⟨_,hf⟩|⟨hf,_⟩;all_goals rw[hf];exact hN _ (by decide) (by decide)
def RdN(w:aS)(B:Nat)(A:Option aW)(n c:Nat)(L:List Nat):Prop:=RdR w B 1 A n c (L.map fun k:Nat=> [Value.int Y (k:Int)])
theorem RdN.at_{w:aS}{B:Nat}{A:Option aW}{n c:Nat}{L:List Nat}(h:RdN w B A n c L){k:Nat}(hk:k<n): ∃g off x,A=aE ⟨g,off,J⟩∧g<B∧L[k]?=aE x∧w.cell? ⟨g,off+k,J⟩=aE (O Y (x:Int)):=by
 obtain⟨g,off,r,h1,h2,h3,h4,h5⟩:=RdR.at_ h hk;rw[eN] at h3
 cases hx:L[k]? with
 |none=>rw[hx] at h3;cases h3
 |some x=>
  rw[hx] at h3;injection h3 with h3;subst h3;have:=h5 0 _ D;rw[rC,Nat.add_zero] at this;exact⟨g,off,x,h1,h2,D,this⟩
theorem RdN.len{w:aS}{B:Nat}{A:Option aW}{n c:Nat}{L:List Nat}(h:RdN w B A n c L):L.length=n:=by have:=h.1;rwa[List.length_map] at this
theorem JJ(A:Option aW)(n c:Nat)(L:List PtT)(w:aS)(h:RdP w w.heap.size A n c L)(hn:n≤1000)(hq:mj L):
  aU bH 283 #[aL A n c,.func (.func 285) #[] #[]] w fun e w'=>e=aJ (O Y (Gp L:Int))∧aV w.heap.size w w':=by
 have oJ:=h.len;have hmx:=h.2.2.2.1;have hle:=h.2.2.1;unfold bB at hmx;have Hll:=bK oJ;have Hbd:=bK (fun k=>mr L hq k);have Hsn:=bK (fun(l:List PtT) (p:PtT)=>KG p l);have Hf:=bK (fun(p:PtT) (hp:p∈L) (w:aS)=>V0 p (hq.1 p hp) (bU (hq.2.2 p hp) (by omega)) w);clear oJ hq;go_enter func283,ntmps283;go_wp2_with fail;go_loopw [5,10] (fun a i wr=> ∃k s:Nat,k≤n∧i=O Y k∧a=O Y (s:Int)∧Hid (s=Gp (L.take k))∧s≤8000*1000∧aV w.heap.size w wr) (fun _ i _=>n-(bE i).toNat);case atStart=>exact⟨0,0,by omega,D,D,bK D,by omega,bP _ _⟩
 case round=>
  obtain⟨k,s,hk,rfl,rfl,Hs,hs8,hb⟩:=hrel;by_cases fF:k<n
  ·have z7:(k:Int)<(n:Int):=by omega
   obtain⟨g,off,x,rfl,hg,hx,hr⟩:=RdP.at_ h fF;have k0:=(hb.cell (p:=⟨g,off+k*4+0,J⟩) hg).trans (hr 0 _ D);have k1:=(hb.cell (p:=⟨g,off+k*4+1,J⟩) hg).trans (hr 1 _ D);have k2:=(hb.cell (p:=⟨g,off+k*4+2,J⟩) hg).trans (hr 2 _ D);have k3:=(hb.cell (p:=⟨g,off+k*4+3,J⟩) hg).trans (hr 3 _ D);rw[Nat.add_zero] at k0;have UX:=fun w=>Hf.out x (dD hx) w;have hsm:=Hsn.out (L.take k) x;rw[←fD hx,←Hs.out] at hsm;have wC:=Hbd.out (k+1);obtain⟨s1,z1,g1,m1⟩:=x;dsimp only at k0 k1 k2 k3 UX hsm;obtain⟨d,hd⟩: ∃d:Nat,d=z1.toNat*B2 m1:=⟨_,D⟩;rw[←hd] at UX hsm;rw[hsm] at wC;have Hsm:=bK hsm.symm;have MZ: ∀w,aU bH 285 #[aM #[aH s1,O Y z1,aG g1,O Y m1]] w fun e w'=>e=aJ (O Y (d:Int))∧aV w.heap.size w w':=UX;have Hfx:=bK MZ;have hw3:IntKind.i64.wrap ((s:Int)+(d:Int))=(s:Int)+(d:Int):=fV _ (by omega);have hbn:aV wr.heap.size wr (wr.alloc (aI #[aH s1,O Y z1,aG g1,O Y m1] 448)):=(bP _ _).alloc (bM _) _;have a0:=bS wr (aI #[aH s1,O Y z1,aG g1,O Y m1] 448);have d0:=bL (i:=0) (v:=aH s1) a0 D;have d1:=bL (i:=1) (v:=O Y z1) a0 D;have d2:=bL (i:=2) (v:=aG g1) a0 D;have d3:=bL (i:=3) (v:=O Y m1) a0 D;have hb4:=eI hb hbn;clear hx hr UX MZ hsm hd hbn a0 hb;go_wp2_with fail;go_fit(Hfx.out _);rintro e w2 ⟨rfl,hbx⟩;have hb5:=eI hb4 hbx;clear k0 k1 k2 k3 d0 d1 d2 d3 hbx hb4;go_wp2;go_roundw;case rel=>exact⟨k+1,s+d,by omega,by go_num,by go_num,Hsm,by omega,hb5⟩
   case measure=>simp[bE];omega
  ·obtain rfl:k=n:=by omega
   have he:s=Gp L:=by rw[Hs.out,List.take_of_length_le (by rw[Hll.out];exact bM _)]
   have He:=bK he;clear he;go_wp2;go_ret;exact⟨by rw[←He.out];rfl,hb⟩
theorem AN(id:Int)(w:aS):aU bH 236 #[O Y id] w fun e w'=>e=aJ (O Y (Gp (mW id).2:Int))∧aV w.heap.size w w':=by
 have hp:=R6 id w;have hN:=Qu id;generalize(mW id).2=L at*;have Hp:=bK hp;have HN:=bK hN;clear hp hN;go_enter func236,ntmps236;go_wp2_with fail;go_fit Hp.out;rintro e w1 ⟨A,n,c,rfl,hr,hb⟩;have hn:n≤1000:=by rw[←hr.len];have:=HN.out.2.1;omega
 go_wp2_with fail;go_fit(JJ A n c L w1 hr hn HN.out);rintro e w2 ⟨rfl,hbx⟩;have hb2:=eI hb hbx;go_wp2;go_ret;exact⟨D,hb2⟩
theorem Mc: ∀(l:List PtT) (n:Nat) (p:PtT),Jf n (l++ [p])=Jf n l++ [(p,n+pY l)]
 | [],n,p=>rfl
 |q::l,n,p=>by show(q,n)::Jf (n+B2 q.mn) (l++ [p])=(q,n)::(Jf (n+B2 q.mn) l++ [(p,n+pY (q::l))]);rw[Mc l,Mz,Nat.add_assoc]
theorem BC(l:List PtT)(p:PtT):Aj (l++ [p])=Aj l++EF (p,pY l):=by
 unfold Aj;rw[Mc,oM,fZ];simp
def PU(z:Int)(g:Bool)(N j:Nat):List If:=(List.range j).map fun i=>(z,g,N+i)
theorem GC(z:Int)(g:Bool)(N j:Nat):PU z g N (j+1)=PU z g N j++ [(z,g,N+j)]:=by
 unfold PU;rw[List.range_succ,gZ];rfl
theorem TD(L:List If)(s:If):(L.map uN).flatten++uN s=((L++ [s]).map uN).flatten:=by simp
theorem YP(L:List If): ∀r∈L.map uN,r.length=3:=fun r hr=>by obtain⟨s,_,rfl⟩:=List.mem_map.1 hr;rfl
theorem X5(id:Int):pY (mW id).2≤300:=by
 rcases Pa id with⟨_,hf⟩|⟨_,hf⟩|⟨_,hf⟩|⟨_,hf⟩|⟨_,hf⟩|⟨_,hf⟩|⟨_,hf⟩|⟨_,hf⟩|⟨_,hf⟩|⟨_,hf⟩|⟨_,hf⟩|⟨_,hf⟩|⟨_,hf⟩|⟨_,hf⟩|⟨_,hf⟩|⟨_,hf⟩|⟨_,hf⟩|⟨_,hf⟩|⟨_,hf⟩|⟨_,hf⟩|⟨_,hf⟩|⟨_,hf⟩|⟨hf,_⟩<;>rw[hf]<;>decide+kernel
theorem aj{n:Int}(h:Tt n)(g:Bool):(-9223372036854775808≤(nR n g).size∧(nR n g).size≤9223372036854775807)∧(-9223372036854775808≤(nR n g).lo∧(nR n g).lo≤9223372036854775807)∧(-9223372036854775808≤(nR n g).hi∧(nR n g).hi≤9223372036854775807):=by
 rcases h with rfl|rfl|rfl|rfl<;>cases g<;>decide
theorem ZJ{L:List PtT}(h:iq L):FB ((kI L).map qG):=fun f hf=>by
 obtain⟨s,hs,rfl⟩:=List.mem_map.1 hf;exact aj (Wl h s hs) _
theorem Lu(nm:ByteArray)(A:Option aW)(n c:Nat)(L:List PtT)(w:aS)(h:RdP w w.heap.size A n c L)(hq:mj L)(tn:pY L≤1000):
  aU bH 209 #[aM #[aH nm,aL A n c]] w fun e w'=> ∃(A1:Option aW) (c1:Nat) (A2:Option aW) (c2:Nat),e=aJ (aN #[aL A1 (pY L) c1,aL A2 (pY L) c2])∧RdR w' w'.heap.size 3 A1 (pY L) c1 ((kI L).map uN)∧RdF w' w'.heap.size A2 (pY L) c2 ((kI L).map qG)∧aV w.heap.size w w':=by
 have oJ:=h.len;have hmx:=h.2.2.2.1;have hle:=h.2.2.1;unfold bB at hmx;obtain⟨i1,As⟩:=eW Yy;have Hi1:=bK As;obtain⟨i2,zC⟩:=eW Je;have Hi2:=bK zC;have aFl:n≤100:=by rw[←oJ];exact hq.2.1
 have Hll:=bK oJ;have Hq:=bK hq;have Hcn:=bK tn;have Hsn:=bK (fun(l:List PtT) (p:PtT)=>BD p l);have Hsl:=bK (fun(l:List PtT) (p:PtT)=>BC l p);have Hlen:=bK (Yi L);have Hwl:=bK (Il L);have a0:=bS w (aI #[aH nm,aL A n c] 377);have e1:=bL (i:=1) (v:=aL A n c) a0 D;have hb1:aV w.heap.size w (w.alloc (aI #[aH nm,aL A n c] 377)):=(bP _ _).alloc (bM _) _;have h1:=pQ (tX h hb1) hb1.size;obtain⟨m0,Dh⟩: ∃m0,m0=pY L:=⟨_,D⟩;rw[←Dh];have Hm0:=bK Dh;obtain⟨Z,hZ⟩: ∃Z,Z=kI L:=⟨_,D⟩;rw[←hZ];have HZ:=bK hZ;clear oJ As zC hq tn a0 h Dh hZ;go_enter func209,ntmps209;go_wp2_with fail;generalize(w.alloc (aI #[aH nm,aL A n c] 377))=w1 at*;replace h1:RdP w1 w1.heap.size A n c L:=h1;clear e1;go_loopw [4,13] (fun l i wr=> ∃(k m c3:Nat) (A3:Option aW),k≤n∧m≤100*k∧i=O Y k∧l=aL A3 m c3∧aV w1.heap.size w1 wr∧wr.ownsRow w1.heap.size 383 3 (aL A3 m c3) m ((Aj (L.take k)).map uN).flatten∧Hid (m=pY (L.take k))) (fun _ i _=>n-(bE i).toNat);case atStart=>exact⟨0,0,0,J,by omega,by omega,D,D,bP _ _,dF _ _ _ _,bK D⟩
 case round=>
  obtain⟨k,m,c3,A3,hk,hm,rfl,rfl,hb,mM,Hm⟩:=hrel;by_cases fF:k<n
  ·have z7:(k:Int)<(n:Int):=by omega
   obtain⟨g,off,x,rfl,hg,hx,hr⟩:=RdP.at_ h1 fF;have k0:=(hb.cell (p:=⟨g,off+k*4+0,J⟩) hg).trans (hr 0 _ D);have k1:=(hb.cell (p:=⟨g,off+k*4+1,J⟩) hg).trans (hr 1 _ D);have k2:=(hb.cell (p:=⟨g,off+k*4+2,J⟩) hg).trans (hr 2 _ D);have k3:=(hb.cell (p:=⟨g,off+k*4+3,J⟩) hg).trans (hr 3 _ D);rw[Nat.add_zero] at k0;have UX:=fun w=>Gm x w;have XI:=Hq.out.2.2 x (dD hx);have Hts:=bK (fD hx);have UY:=Hsn.out (L.take k) x;have Kl:=Hsl.out (L.take k) x;rw[←Hts.out,←Hm.out] at UY Kl;obtain⟨s1,z1,g1,m1⟩:=x;have fc:Aj (L.take (k+1))=Aj (L.take k)++PU z1 g1 m (B2 m1):=Kl;dsimp only at k0 k1 k2 k3 UX UY XI;obtain⟨d,hd⟩: ∃d:Nat,d=B2 m1:=⟨_,D⟩;rw[←hd] at UX UY XI fc;have Hsn1:=bK UY;have Hsl1:=bK fc;have MZ: ∀w,aU bH 252 #[aM #[aH s1,O Y z1,aG g1,O Y m1]] w fun e w'=>e=aJ (O Y (d:Int))∧aV w.heap.size w w':=UX;have Hfx:=bK MZ;have hbn:aV wr.heap.size wr (wr.alloc (aI #[aH s1,O Y z1,aG g1,O Y m1] 448)):=(bP _ _).alloc (bM _) _;have a0:=bS wr (aI #[aH s1,O Y z1,aG g1,O Y m1] 448);have Cd:=bT a0;have d0:=bL (i:=0) (v:=aH s1) a0 D;have d1:=bL (i:=1) (v:=O Y z1) a0 D;have d2:=bL (i:=2) (v:=aG g1) a0 D;have d3:=bL (i:=3) (v:=O Y m1) a0 D;have hb4:=eI hb hbn;have vD:=jK mM hbn (bM _);have hne: ∀q,(Value.slice A3 m c3).ownBlock=aE q→q≠wr.heap.size:=fun q hq=>by have:=(eU mM hq).2;omega
   have wT:m=m+0:=D;have rA:(wr.alloc (aI #[aH s1,O Y z1,aG g1,O Y m1] 448)).ownsRow w1.heap.size 383 3 (aL A3 m c3) m ((Aj (L.take k)++PU z1 g1 m 0).map uN).flatten:=by simpa [PU] using vD
   have Hne:=bK hne;clear hx hr UX MZ UY Kl fc hd hbn a0 hb mM vD hne wT;go_wp2_with fail;go_fit(Hfx.out _);rintro e w6 ⟨rfl,hbx⟩;obtain⟨b0,hbb⟩: ∃b,b=wr.heap.size:=⟨_,D⟩;rw[←hbb] at d1 d2 Hne Cd ⊢;have q1:=(hbx.cell (p:=⟨b0,1,J⟩) Cd).trans d1;have q2:=(hbx.cell (p:=⟨b0,2,J⟩) Cd).trans d2;have hb6:=eI hb4 hbx;have uQ:=jK rA hbx (bM _);have E6:b0<w6.heap.size:=cI Cd hbx.size;clear k0 k1 k2 k3 d0 d1 d2 d3 hbx hb4 rA hbb Cd Hfx;go_wp2_with fail;go_loopw [4,19] (fun l i wr=> ∃(j m5 c5:Nat) (A5:Option aW),j≤d∧m5≤100*k+j∧i=O Y j∧l=aL A5 m5 c5∧aV w1.heap.size w1 wr∧b0<wr.heap.size∧wr.cell? ⟨b0,1,J⟩=aE (O Y z1)∧wr.cell? ⟨b0,2,J⟩=aE (aG g1)∧wr.ownsRow w1.heap.size 383 3 (aL A5 m5 c5) m5 ((Aj (L.take k)++PU z1 g1 m j).map uN).flatten∧Hid (m5=m+j)∧Hid (∀q,(Value.slice A5 m5 c5).ownBlock=aE q→q≠b0)) (fun _ i _=>d-(bE i).toNat);case atStart=>exact⟨0,m,c3,A3,by omega,by omega,D,D,hb6,E6,q1,q2,uQ,bK D,Hne⟩
   case round=>
    clear hb6 E6 q1 q2 uQ Hne;obtain⟨j,m5,c5,A5,hj,Kq,rfl,rfl,hb6,E6,q1,q2,uQ,Hm5,Hne⟩:=hrel;by_cases hjd:j<d
    ·have aJq:(j:Int)<(d:Int):=by omega
     have hbn:aV wr.heap.size wr (wr.alloc (aI #[O Y z1,aG g1,O Y (m5:Int)] 383)):=(bP _ _).alloc (bM _) _;have hrd:Rd _ _ 3 _ 1 1 (uN (z1,g1,m5)):=yX (sQ (size:=3) (e:=383) wr [uN (z1,g1,m5)] #[O Y z1,aG g1,O Y (m5:Int)] D (by intro r hr;rw[List.mem_singleton.1 hr];rfl) (by simp[bB]) 1 D) (by omega);have hb7:=eI hb6 hbn;have sC:=jK uQ hbn (bM _);have UM:b0<(wr.alloc (aI #[O Y z1,aG g1,O Y (m5:Int)] 383)).heap.size:=cI E6 hbn.size;have p1:=(hbn.cell (p:=⟨b0,1,J⟩) E6).trans q1;have p2:=(hbn.cell (p:=⟨b0,2,J⟩) E6).trans q2;have Hfl:=bK (show((Aj (L.take k)++PU z1 g1 m j).map uN).flatten++uN (z1,g1,m5)=((Aj (L.take k)++PU z1 g1 m (j+1)).map uN).flatten by rw[TD,GC,Hm5.out,List.append_assoc]);clear hb6 hbn uQ;go_wp2_with(at_builtin;refine rP ?_);generalize(wr.alloc (aI #[O Y z1,aG g1,O Y (m5:Int)] 383))=w7 at*;refine eL (iY (base:=w1.heap.size) (n:=m5) underlying379 Hi1.out D (by omega) sC D hrd D (G9 _) (k:=m5+1) D Hfl.out (by unfold bB;omega) (by omega) hb7.size ?_);intro A8 c8 w8 z8 hgr zE;have hb8:=Below.grown hb7 hgr hb7.size (fun j hj=>(eU sC hj).1);have NA:w8.heap[b0]?=w7.heap[b0]?:=hgr.block b0 UM (fun e=>Hne.out b0 e.symm D);have r1:w8.cell? ⟨b0,1,J⟩=aE (O Y z1):=(World.cell?_of_block (a:=⟨b0,1,J⟩) NA).trans p1;have r2:w8.cell? ⟨b0,2,J⟩=aE (aG g1):=(World.cell?_of_block (a:=⟨b0,2,J⟩) NA).trans p2;have aCb:b0<w8.heap.size:=cI UM hgr.size
     have aCc:Hid (∀q,(Value.slice A8 (m5+1) c8).ownBlock=aE q→q≠b0):=bK (fun q hq=>by
      rcases zE with ho|ho
      ·exact Hne.out q (by rw[←ho];exact hq)
      ·rw[ho] at hq;injection hq with hq;omega)
     have Hm8:=bK (show m5+1=m+(j+1) by rw[Hm5.out];omega);clear hgr zE sC hrd hb7 q1 q2 p1 p2 NA E6 UM Hne;go_wp2;go_roundw;case rel=>exact⟨j+1,m5+1,c8,A8,by omega,by omega,by go_num,D,hb8,aCb,r1,r2,z8,Hm8,aCc⟩
     case measure=>simp[bE];omega
    ·obtain rfl:j=d:=by omega
     rw[←Hsl1.out] at uQ;have Hm9:Hid (m5=pY (L.take (k+1))):=bK (by rw[Hm5.out,Hsn1.out]);have MH:m5≤100*(k+1):=by omega
     clear q1 q2 E6 Hne;go_wp2;go_roundw;case rel=>exact⟨k+1,m5,c5,A5,by omega,MH,by go_num,D,hb6,uQ,Hm9⟩
     case measure=>simp[bE];omega
  ·obtain rfl:k=n:=by omega
   have htk:L.take k=L:=List.take_of_length_le (by rw[Hll.out];exact bM _);rw[htk] at mM Hm;have XC:m≤1000:=by rw[Hm.out];exact Hcn.out
   have hrd:RdR wr wr.heap.size 3 A3 m c3 ((Aj L).map uN):=RdR.own mM (by rw[List.length_map,Hlen.out,←Hm.out]) (YP _);have hbf:=eI hb1 hb;obtain rfl:m=m0:=by rw[Hm.out,Hm0.out]
   have Hwl2:Hid (Z.length=m):=bK (by rw[HZ.out,Hwl.out,←Hm.out]);clear mM htk hb hb1 h1 hm hk fF;go_wp2_with fail;go_fit(Sa A3 m c3 (Aj L) wr hrd XC);rintro e w2 ⟨A4,c4,rfl,hr4,hbx⟩;have hb2:=eI hbf hbx;replace hr4:RdR w2 w2.heap.size 3 A4 m c4 ((kI L).map uN):=hr4;rw[←HZ.out] at hr4;have aCd:=hr4.2.2.2.1;have aJt:=hr4.2.2.1;unfold bB at aCd;have Hfb:=bK (ZJ Hq.out.1);rw[←HZ.out] at Hfb;clear hbx hbf hrd Hsn Hsl Hlen Hwl Hcn Hm Hm0 Hq Hll Hi1;go_wp2_with fail;go_loopw [7,37] (fun o i wr=> ∃(k c3:Nat) (A3:Option aW),k≤m∧i=O Y k∧o=aL A3 k c3∧aV w2.heap.size w2 wr∧wr.ownsRow w2.heap.size 408 4 (aL A3 k c3) k (Ft ((Z.take k).map qG))) (fun _ i _=>m-(bE i).toNat);case atStart=>exact⟨0,0,J,by omega,D,D,bP _ _,dF _ _ _ _⟩
   case round=>
    obtain⟨k,c3,A3,hk,rfl,rfl,hb,mM⟩:=hrel;by_cases fF:k<m
    ·have z7:(k:Int)<(m:Int):=by omega
     obtain⟨g,off,r,rfl,hg,hx0,Ce,hr⟩:=RdR.at_ hr4 fF
     obtain⟨x,hx,rfl⟩: ∃x,Z[k]?=aE x∧r=uN x:=by
      rw[eN] at hx0
      cases hz:Z[k]? with
      |none=>rw[hz] at hx0;cases hx0
      |some x=>rw[hz] at hx0;injection hx0 with hx0;exact⟨x,D,hx0.symm⟩
     have k0:=(hb.cell (p:=⟨g,off+k*3+0,J⟩) hg).trans (hr 0 _ D);have k1:=(hb.cell (p:=⟨g,off+k*3+1,J⟩) hg).trans (hr 1 _ D);have k2:=(hb.cell (p:=⟨g,off+k*3+2,J⟩) hg).trans (hr 2 _ D);rw[Nat.add_zero] at k0;have P6:Ft ((Z.take k).map qG)++Ft [qG x]=Ft ((Z.take (k+1)).map qG):=by rw[fD hx,gZ,Yn];rfl
     obtain⟨z1,g1,m1⟩:=x;have W8:=fun w=>oS z1 g1 w;have hfo:qG (z1,g1,m1)=nR z1 g1:=D;rw[hfo] at P6;generalize nR z1 g1=f at*;obtain⟨fs,fg,jt,ju⟩:=f;have XJ: ∀w,aU bH 224 #[O Y z1,aG g1] w fun e w'=>e=aJ (aM #[O Y fs,aG fg,O Y jt,O Y ju])∧aV w.heap.size w w':=W8;have Hany:=bK XJ;have Hfl:=bK P6;dsimp only at k0 k1 k2;have hbn:aV wr.heap.size wr (wr.alloc (aI #[O Y z1,aG g1,O Y (m1:Int)] 383)):=(bP _ _).alloc (bM _) _;have a0:=bS wr (aI #[O Y z1,aG g1,O Y (m1:Int)] 383);have d0:=bL (i:=0) (v:=O Y z1) a0 D;have d1:=bL (i:=1) (v:=aG g1) a0 D;have hb4:=eI hb hbn;have vD:=jK mM hbn (bM _);clear hx hx0 Ce hr W8 XJ hfo P6 hb hbn a0 mM;go_wp2_with fail;go_fit(Hany.out _);rintro e w5 ⟨rfl,hbx⟩;have hb5:=eI hb4 hbx;have rA:=jK vD hbx (bM _);have hbn:aV w5.heap.size w5 (w5.alloc (aI #[O Y fs,aG fg,O Y jt,O Y ju] 408)):=(bP _ _).alloc (bM _) _;have hrd:Rd (w5.alloc (aI #[O Y fs,aG fg,O Y jt,O Y ju] 408)) (w5.heap.size+1) 4 (aE ⟨w5.heap.size,0,J⟩) 1 1 (Ft [⟨fs,fg,jt,ju⟩]):=Yx w5 408 [⟨fs,fg,jt,ju⟩] _ D (by simp[bB]);have hb6:=eI hb5 hbn;have uQ:=jK rA hbn (bM _);clear k0 k1 k2 d0 d1 hbx hb4 vD hb5 rA hbn;go_wp2_with(at_builtin;refine rP ?_);generalize(w5.alloc (aI #[O Y fs,aG fg,O Y jt,O Y ju] 408))=w6 at*;refine eL (iY (base:=w2.heap.size) (n:=k) underlying326 Hi2.out D (by omega) uQ D hrd D (Xt _) (k:=k+1) D Hfl.out (by unfold bB;omega) (by omega) hb6.size ?_);intro A8 c8 w8 z8 hgr zE;have hb8:=Below.grown hb6 hgr hb6.size (fun j hj=>(eU uQ hj).1);clear hgr zE uQ hrd hb6;go_wp2;go_roundw;case rel=>exact⟨k+1,c8,A8,by omega,by go_num,D,hb8,z8⟩
     case measure=>simp[bE];omega
    ·obtain rfl:k=m:=by omega
     have htk:Z.take k=Z:=List.take_of_length_le (by rw[Hwl2.out];exact bM _);rw[htk] at mM;have Gu:=X7 mM Hfb.out;have hrs:RdR wr wr.heap.size 3 A4 k c4 (Z.map uN):=pQ (tX hr4 hb) hb.size;have hbf:=eI hb2 hb;clear mM htk hr4 hb hb2;go_wp2;go_ret2;exact⟨A4,c4,A3,c3,D,hrs,Gu,hbf⟩
def Gi(z:Int)(g:Bool):ByteArray:=if g=aF then(if z=8 then⟨#[105,110,116,54,52,95,116]⟩ else if z=4 then⟨#[105,110,116,51,50,95,116]⟩ else if z=2 then⟨#[105,110,116,49,54,95,116]⟩ else⟨#[105,110,116,56,95,116]⟩) else(if z=8 then⟨#[117,105,110,116,54,52,95,116]⟩ else if z=4 then⟨#[117,105,110,116,51,50,95,116]⟩ else if z=2 then⟨#[117,105,110,116,49,54,95,116]⟩ else⟨#[117,105,110,116,56,95,116]⟩)
theorem LD(p:PtT)(hz:Tt p.sz)(w:aS):aU bH 257 #[aM (pH p).toArray] w fun e w'=>e=aJ (aH (Gi p.sz p.sg))∧aV w.heap.size w w':=by
 obtain⟨s,z,g,m⟩:=p;have hz:Tt z:=hz;show aU _ _ #[aM #[aH s,O Y z,aG g,O Y m]] _ (fun e w'=>e=aJ (aH (Gi z g))∧aV w.heap.size w w');rcases hz with rfl|rfl|rfl|rfl<;>cases g;all_goals go_enter func257,ntmps257;go_wp2;go_ret;exact⟨D,((bP _ _).alloc (bM _) _).alloc (by simp) _⟩
end
section
open Go.RowKit NumLaw
attribute [local go_sem] Addr.add_mid
attribute [-go_sem] run_eql_struct run_neq_struct
open CrcLaw
abbrev jB:=@ByteArray.size_append
def CB(s:ByteArray):List UInt8:=s.data.toList
theorem P7(w:aS)(e:aY)(s:ByteArray)(hm:s.size≤bB):Rd (Lib.bytesWorld w e s) (w.heap.size+1) 1 (aE ⟨w.heap.size,0,J⟩) s.size (grownCap w s.size 0 e) (bv (CB s)):=by
 refine⟨by rw[xF,rC];exact oN,grownCap_ge _ _ _ _,grownCap_le_maxLen _ _ _ _ hm,fun _=>⟨_,D,iO _,fun j u hu=> ?_⟩⟩;have e1:(⟨w.heap.size,0,J⟩:aW).add j=⟨w.heap.size,j,J⟩:=by unfold Addr.add;split<;>simp_all
 have hj:j<s.data.toList.length:=by have:=(List.getElem?_eq_some_iff.1 hu).1;simpa [bv,CB] using this
 rw[e1,Lib.bytesWorld_cell w e s j (by rw[oN] at hj;exact hj)];unfold bv CB at hu;rw[eN,cF hj] at hu;injection hu with hu;rw[←hu,jO,cF hj];rfl
theorem Bm(w:aS)(e:aY)(s:ByteArray):aV w.heap.size w (Lib.bytesWorld w e s):=⟨D,D,D,by rw[Lib.bytesWorld_size];omega,fun k hk=>Lib.bytesWorld_at_old w e s k hk⟩
def kg(x:PtT):ByteArray:=Gi x.sz x.sg++⟨#[32]⟩++x.nm++⟨#[32]⟩
def QU(x:PtT):List UInt8:=CB (kg x)++if 0<x.mn then [UInt8.ofNat x.mn.toNat] else []
def VL(p:uV):List UInt8:=CB (p.1++⟨#[32]⟩)++(Bw PtT.sz p.2).flatMap QU
def YX(p:uV):Int:=if p.1.toList.isEmpty=aF then 0 else((moreN 65535 (VL p)% 256)^^^(moreN 65535 (VL p)/256):Nat)
theorem X8{z:Int}(h:Tt z)(g:Bool):(Gi z g).size≤8:=by rcases h with rfl|rfl|rfl|rfl<;>cases g<;>decide
theorem XZ{x:PtT}(h:Tt x.sz)(hn:x.nm.size≤100):(kg x).size≤200:=by
 have:=X8 h x.sg;unfold kg;rw[jB,jB,jB];have:(⟨#[32]⟩:ByteArray).size=1:=D;omega
def NmQ(p:uV):Prop:=p.1.size≤100∧(∀x∈p.2,x.nm.size≤100)∧(p.1.toList.isEmpty=p.2.isEmpty)
theorem Ot(id:Int):NmQ (mW id):=by
 have hN: ∀p:uV,p.1.size≤100→(p.2.all fun x=>decide (x.nm.size≤100))=aF→p.1.toList.isEmpty=p.2.isEmpty→NmQ p:=fun p h1 h2 h3=>by rw[vE] at h2;exact⟨h1,fun x hx=>eZ (h2 x hx),h3⟩
 rcases Pa id with⟨_,hf⟩|⟨_,hf⟩|⟨_,hf⟩|⟨_,hf⟩|⟨_,hf⟩|⟨_,hf⟩|⟨_,hf⟩|⟨_,hf⟩|⟨_,hf⟩|⟨_,hf⟩|⟨_,hf⟩|⟨_,hf⟩|⟨_,hf⟩|⟨_,hf⟩|⟨_,hf⟩|⟨_,hf⟩|⟨_,hf⟩|⟨_,hf⟩|⟨_,hf⟩|⟨_,hf⟩|⟨_,hf⟩|⟨_,hf⟩|⟨hf,_⟩
 ·rw[hf];exact hN _ (by decide) (by decide) (lA (by intro h2;exact absurd (gD (fun b:ByteArray=>b.data.size) h2) (by decide)))
 ·rw[hf];exact hN _ (by decide) (by decide) (lA (by intro h2;exact absurd (gD (fun b:ByteArray=>b.data.size) h2) (by decide)))
 ·rw[hf];exact hN _ (by decide) (by decide) (lA (by intro h2;exact absurd (gD (fun b:ByteArray=>b.data.size) h2) (by decide)))
 ·rw[hf];exact hN _ (by decide) (by decide) (lA (by intro h2;exact absurd (gD (fun b:ByteArray=>b.data.size) h2) (by decide)))
 ·rw[hf];exact hN _ (by decide) (by decide) (lA (by intro h2;exact absurd (gD (fun b:ByteArray=>b.data.size) h2) (by decide)))
 ·rw[hf];exact hN _ (by decide) (by decide) (lA (by intro h2;exact absurd (gD (fun b:ByteArray=>b.data.size) h2) (by decide)))
 ·rw[hf];exact hN _ (by decide) (by decide) (lA (by intro h2;exact absurd (gD (fun b:ByteArray=>b.data.size) h2) (by decide)))
 ·rw[hf];exact hN _ (by decide) (by decide) (lA (by intro h2;exact absurd (gD (fun b:ByteArray=>b.data.size) h2) (by decide)))
 ·rw[hf];exact hN _ (by decide) (by decide) (lA (by intro h2;exact absurd (gD (fun b:ByteArray=>b.data.size) h2) (by decide)))
 ·rw[hf];exact hN _ (by decide) (by decide) (lA (by intro h2;exact absurd (gD (fun b:ByteArray=>b.data.size) h2) (by decide)))
 ·rw[hf];exact hN _ (by decide) (by decide) (lA (by intro h2;exact absurd (gD (fun b:ByteArray=>b.data.size) h2) (by decide)))
 ·rw[hf];exact hN _ (by decide) (by decide) (lA (by intro h2;exact absurd (gD (fun b:ByteArray=>b.data.size) h2) (by decide)))
 ·rw[hf];exact hN _ (by decide) (by decide) (lA (by intro h2;exact absurd (gD (fun b:ByteArray=>b.data.size) h2) (by decide)))
 ·rw[hf];exact hN _ (by decide) (by decide) (lA (by intro h2;exact absurd (gD (fun b:ByteArray=>b.data.size) h2) (by decide)))
 ·rw[hf];exact hN _ (by decide) (by decide) (lA (by intro h2;exact absurd (gD (fun b:ByteArray=>b.data.size) h2) (by decide)))
 ·rw[hf];exact hN _ (by decide) (by decide) (lA (by intro h2;exact absurd (gD (fun b:ByteArray=>b.data.size) h2) (by decide)))
 ·rw[hf];exact hN _ (by decide) (by decide) (lA (by intro h2;exact absurd (gD (fun b:ByteArray=>b.data.size) h2) (by decide)))
 ·rw[hf];exact hN _ (by decide) (by decide) (lA (by intro h2;exact absurd (gD (fun b:ByteArray=>b.data.size) h2) (by decide)))
 ·rw[hf];exact hN _ (by decide) (by decide) (lA (by intro h2;exact absurd (gD (fun b:ByteArray=>b.data.size) h2) (by decide)))
 ·rw[hf];exact hN _ (by decide) (by decide) (lA (by intro h2;exact absurd (gD (fun b:ByteArray=>b.data.size) h2) (by decide)))
 ·rw[hf];exact hN _ (by decide) (by decide) (lA (by intro h2;exact absurd (gD (fun b:ByteArray=>b.data.size) h2) (by decide)))
 ·rw[hf];exact hN _ (by decide) (by decide) (lA (by intro h2;exact absurd (gD (fun b:ByteArray=>b.data.size) h2) (by decide)))
 ·rw[hf];exact hN _ (by decide) (by decide) (Sn D)
end
section
open Go.RowKit NumLaw
attribute [local go_sem] Addr.add_mid
attribute [-go_sem] run_eql_struct run_neq_struct
abbrev nH:=@Bool.false_ne_true
def AP(p:uV)(v:List Int):Nat:=if p.1.toList.isEmpty=aF then 6 else Dw p.2 v
def Pz(p:uV)(v:List Int):List UInt8:=if p.1.toList.isEmpty=aF then [] else zF p.2 v
def RP(p:uV)(b:List UInt8):Nat:=if p.1.toList.isEmpty=aF then 6 else L5 p.2 b
def NT(p:uV)(b:List UInt8):List Int:=if p.1.toList.isEmpty=aF then [] else Gg p.2 b
theorem VT{Z:List If}{w:aS}{B:Nat}{A:Option aW}{n c:Nat}(h:RdR w B 3 A n c (Z.map uN)){k:Nat}(hk:k<n): ∃g off x,A=aE ⟨g,off,J⟩∧g<B∧Z[k]?=aE x∧w.rangeAt g (off+k*3) (uN x):=by
 obtain⟨g,off,r,h1,h2,h3,h4,h5⟩:=RdR.at_ h hk;rw[eN] at h3
 cases hz:Z[k]? with
 |none=>rw[hz] at h3;cases h3
 |some x=>
  rw[hz] at h3;injection h3 with h3;subst h3;exact⟨g,off,x,h1,h2,D,h5⟩
theorem KM{α:Type}{cur V:List α}{k n:Nat}{x:α}(hl:cur.length=n)(hk:k<n)(ht:cur.take k=V.take k)(hx:V[k]?=aE x):(cur.set k x).take (k+1)=V.take (k+1):=by
 rw[fD hx,←ht];have h1:(cur.set k x)[k]?=aE x:=by rw[List.getElem?_set_self (by omega)]
 rw[fD h1,List.take_set_of_le (bM _)]
theorem AZ(id:Int)(A':Option aW)(n' c':Nat)(v:List Int)(w:aS)(h:Rd w w.heap.size 1 A' n' c' (v.map (Value.int Y)))(NX: ∀x∈v,-9223372036854775808≤x∧x≤9223372036854775807):
  aU bH 161 #[O Y id,aL A' n' c'] w (Yq w (Pz (mW id) v) (AP (mW id) v)):=by
 have hf:=Dq id w;have hN:=Qu id;have hM:=Ot id;have hC:=X5 id;have E8:v.length=n':=by have:=h.len;simpa using this
 have hmx:=h.max;have hle:=h.le;unfold bB at hmx;generalize mW id=p at*;obtain⟨nm,L⟩:=p;obtain⟨m,hm⟩: ∃m,m=pY L:=⟨_,D⟩;have hs:=fun A n c w h=>Lu nm A n c L w h hN (bU hC (by omega));have hC':m≤300:=by rw[hm];exact hC
 rw[←hm] at hs;have Hf:=bK hf;have Hs:=bK hs;have HN:=bK hN;have HM:=bK hM;have Hm:=bK hm;have Hwl:Hid ((kI L).length=m):=bK (by rw[Il,hm]);have Hat:=bK (fun s (hs:s∈kI L)=>(show s.2.2<m by rw[hm];exact(Oa L s.2.2).1 (List.mem_map.2 ⟨s,hs,D⟩)));clear hf hs hC hm
 cases hem:nm.toList.isEmpty with
 |true=>
  have hv:Pz (nm,L) v= []∧AP (nm,L) v=6:=by unfold Pz AP;rw[bY hem,bY hem];exact⟨D,D⟩
  have Hv:=bK hv;clear hv hN hM E8;go_enter func161,ntmps161;go_wp2_with fail;go_fit Hf.out;unfold jS;rintro e w1 ⟨A,n,c,rfl,hr,hb⟩;have a0:=bS w1 (aI #[aH nm,aL A n c] 377);have k0:=bL (i:=0) (v:=aH nm) a0 D;have k1:=bL (i:=1) (v:=aL A n c) a0 D;have hba:aV w1.heap.size w1 (w1.alloc (aI #[aH nm,aL A n c] 377)):=(bP _ _).alloc (bM _) _;have hb2:=eI hb hba;have fF:=bT a0;have hr2:=pQ (tX hr hba) hba.size;clear hr hb hba a0;go_wp2_with fail;generalize(w1.alloc (aI #[aH nm,aL A n c] 377))=w2 at*;go_fit(Hs.out A n c w2 hr2);rintro e w3 ⟨A1,c1,A2,c2,rfl,hr3,OF,hbx⟩;have hb3:=eI hb2 hbx;have q0:=(hbx.cell (p:=⟨w1.heap.size,0,J⟩) fF).trans k0;clear k0 k1 hbx hb2;go_wp2;go_ret2;rw[Hv.out.1,Hv.out.2];exact⟨J,0,0,D,dF _ _ _ _,hb3⟩
 |false=>
  have hv:Pz (nm,L) v=zF L v∧AP (nm,L) v=Dw L v:=by unfold Pz AP;rw[bX (by rw[hem];exact nH),bX (by rw[hem];exact nH)];exact⟨D,D⟩
  have Hv:=bK hv;clear hv hN hM;by_cases hnm:n'=m
  case neg=>
   have Ez:zF L v= []∧Dw L v=1:=by
    have: ¬v.length=pY L:=by rw[E8,←Hm.out];exact hnm
    unfold zF Dw;rw[bX this,bX this];exact⟨D,D⟩
   have Hv2:=bK Ez;have jj:((n':Int) !=(m:Int))=aF:=by simp;omega
   clear Ez E8;go_enter func161,ntmps161;go_wp2_with fail;go_fit Hf.out;unfold jS;rintro e w1 ⟨A,n,c,rfl,hr,hb⟩;have a0:=bS w1 (aI #[aH nm,aL A n c] 377);have k0:=bL (i:=0) (v:=aH nm) a0 D;have k1:=bL (i:=1) (v:=aL A n c) a0 D;have hba:aV w1.heap.size w1 (w1.alloc (aI #[aH nm,aL A n c] 377)):=(bP _ _).alloc (bM _) _;have hb2:=eI hb hba;have fF:=bT a0;have hr2:=pQ (tX hr hba) hba.size;clear hr hb hba a0;go_wp2_with fail;generalize(w1.alloc (aI #[aH nm,aL A n c] 377))=w2 at*;go_fit(Hs.out A n c w2 hr2);rintro e w3 ⟨A1,c1,A2,c2,rfl,hr3,OF,hbx⟩;have hb3:=eI hb2 hbx;have q0:=(hbx.cell (p:=⟨w1.heap.size,0,J⟩) fF).trans k0;clear k0 k1 hbx hb2;go_wp2;go_ret2;rw[Hv.out.1,Hv.out.2,Hv2.out.1,Hv2.out.2];exact⟨J,0,0,D,dF _ _ _ _,hb3⟩
  have jj:((n':Int) !=(m:Int))=aD:=by simp;omega
  have Ez:zF L v=Mq ((kI L).map qG) ((kI L).map (Ck v))∧Dw L v=My ((kI L).map qG) ((kI L).map (Ck v)):=by
   have:v.length=pY L:=by rw[E8,←Hm.out];exact hnm
   unfold zF Dw;rw[bY this,bY this];exact⟨D,D⟩
  have Hv2:=bK Ez;have Hval:=bK (fun(k:Nat) (s:If) (x:Int) (hs:(kI L)[k]?=aE s) (hx:v[s.2.2]?=aE x)=>(show((kI L).map (Ck v))[k]?=aE x by rw[eN,hs];show aE (v.getD s.2.2 0)=_;rw[jO,hx];rfl))
  have Hvb2:Hid (∀x∈(kI L).map (Ck v),-9223372036854775808≤x∧x≤9223372036854775807):=bK (fun x hx=>by
   obtain⟨s,hs,rfl⟩:=List.mem_map.1 hx;show-9223372036854775808≤v.getD s.2.2 0∧v.getD s.2.2 0≤9223372036854775807;rw[jO]
   cases hg:v[s.2.2]? with
   |none=>exact⟨by decide,by decide⟩
   |some y=>exact NX y (dD hg))
  have Hvl:Hid (((kI L).map (Ck v)).length=m):=bK (by rw[List.length_map,Hwl.out]);have CU:=run_make_row' (P:=bH) 47 2 (O Y 0) 8 qM Jz D Y Y m (by omega) (by omega);rw[F0] at CU;obtain⟨z,hz⟩: ∃z,z=List.replicate m (Value.int Y 0):=⟨_,D⟩;rw[←hz] at CU;have dm:z.length=m:=by rw[hz];simp
  have Hzl:=bK dm;have Hlv:=bK E8;clear dm hz Ez E8 NX;go_enter func161,ntmps161;go_wp2_with fail;go_fit Hf.out;unfold jS;rintro e w1 ⟨A,n,c,rfl,hr,hb⟩;have a0:=bS w1 (aI #[aH nm,aL A n c] 377);have k0:=bL (i:=0) (v:=aH nm) a0 D;have k1:=bL (i:=1) (v:=aL A n c) a0 D;have hba:aV w1.heap.size w1 (w1.alloc (aI #[aH nm,aL A n c] 377)):=(bP _ _).alloc (bM _) _;have hb2:=eI hb hba;have fF:=bT a0;have hr2:=pQ (tX hr hba) hba.size;clear hr hb hba a0;go_wp2_with fail;generalize(w1.alloc (aI #[aH nm,aL A n c] 377))=w2 at*;go_fit(Hs.out A n c w2 hr2);rintro e w3 ⟨A1,c1,A2,c2,rfl,hr3,OF,hbx⟩;have hb3:=eI hb2 hbx;have q0:=(hbx.cell (p:=⟨w1.heap.size,0,J⟩) fF).trans k0;have ff:=hr3.2.2.2.1;have aCe:=hr3.2.2.1;unfold bB at ff;have hb4:aV w3.heap.size w3 (w3.alloc (aI z.toArray 2)):=(bP _ _).alloc (bM _) _;have yV:=bS w3 (aI z.toArray 2);generalize kI L=Z at*;generalize Z.map (Ck v)=V at*;clear k0 k1 hbx hb2 hr2 fF Hs Hf HN HM;go_wp2_with fail;generalize(w3.alloc (aI z.toArray 2))=w4 at*;obtain⟨gm,Pj⟩: ∃gm,gm=w3.heap.size:=⟨_,D⟩;have Hgg:=bK Pj;rw[←Pj] at yV ⊢;clear Pj q0 CU;go_loopw [34] (fun i wr=> ∃(k:Nat) (cur:List aT),k≤m∧i=O Y k∧aV w3.heap.size w3 wr∧wr.heap[gm]?=aE (aI cur.toArray 2)∧Hid (cur.length=m)∧Hid (cur.take k=(V.map (Value.int Y)).take k)) (fun i _=>m-(bE i).toNat);case atStart=>exact⟨0,z,by omega,D,hb4,yV,Hzl,bK D⟩
  case round=>
   clear hb4 yV w4;obtain⟨k,cur,hk,rfl,hb,yV,Hcl,Hct⟩:=hrel;have CW:=bT yV;by_cases fF:k<m
   ·have z7:(k:Int)<(m:Int):=by omega
    obtain⟨g,off,x,rfl,hg,hx,hr⟩:=VT hr3 fF;have k0:=(hb.cell (p:=⟨g,off+k*3+0,J⟩) hg).trans (hr 0 _ D);have k1:=(hb.cell (p:=⟨g,off+k*3+1,J⟩) hg).trans (hr 1 _ D);have k2:=(hb.cell (p:=⟨g,off+k*3+2,J⟩) hg).trans (hr 2 _ D);rw[Nat.add_zero] at k0;have MY:=Hat.out x (dD hx);obtain⟨ad,y,rfl,hy,UD,DB⟩:=Fc h (show x.2.2<n' by omega);have hxy:=Hval.out k x y hx hy;obtain⟨z1,g1,Dl⟩:=x;dsimp only at k0 k1 k2 MY UD;have aCf:(Dl:Int)<(n':Int):=by omega
    have hbw:=eI hb3 hb;have xp:cur[k]?=aE (cur[k]'(by rw[Hcl.out];exact fF)):=cF _;generalize(cur[k]'(by rw[Hcl.out];exact fF))=uo at xp;have e1:=bL (i:=k) (v:=uo) yV (by rw[dO];exact xp);have e2:=bZ (i:=k) yV;have UZ:=cN (i:=k) yV (O Y y);rw[cE] at UZ;have hbs:=hb.setCell (p:=⟨gm,k,J⟩) (by rw[Hgg.out];exact bM _) (O Y y);have ky:=(hbw.cell (p:=ad.add Dl) (by rw[lL];exact DB)).trans UD;have a0:=bS wr (aI #[O Y z1,aG g1,O Y (Dl:Int)] 383);have d2:=bL (i:=2) (v:=O Y (Dl:Int)) a0 D;have hbn:aV wr.heap.size wr (wr.alloc (aI #[O Y z1,aG g1,O Y (Dl:Int)] 383)):=(bP _ _).alloc (bM _) _;have ky2:=(hbn.cell (p:=ad.add Dl) (by rw[lL];have:=hbw.size;omega)).trans ky;have e3:=(hbn.cell (p:=⟨gm,k,J⟩) CW).trans e1;have tr:aV (wr.setCell ⟨gm,k,J⟩ (O Y y)).heap.size (wr.setCell ⟨gm,k,J⟩ (O Y y)) ((wr.setCell ⟨gm,k,J⟩ (O Y y)).alloc (aI #[O Y z1,aG g1,O Y (Dl:Int)] 383)):=(bP _ _).alloc (bM _) _;have hb5:=eI hbs tr;have J6:=(heap_alloc_old (wr.setCell ⟨gm,k,J⟩ (O Y y)) (aI #[O Y z1,aG g1,O Y (Dl:Int)] 383) (h:=bT UZ)).trans UZ;have aCg:Hid ((cur.set k (O Y y)).length=m):=bK (by rw[jQ];exact Hcl.out);have aCh:Hid ((cur.set k (O Y y)).take (k+1)=(V.map (Value.int Y)).take (k+1)):=bK (KM Hcl.out fF Hct.out (by rw[eN,hxy];rfl));clear hx hr hy UD hxy hbn tr a0 hbw yV UZ hbs xp hb;go_wp2;go_roundw;case rel=>exact⟨k+1,_,by omega,by go_num,hb5,J6,aCg,aCh⟩
    case measure=>simp[bE];omega
   ·obtain rfl:k=m:=by omega
    have dj:cur=V.map (Value.int Y):=by
     have h1:=Hct.out
     rwa[List.take_of_length_le (by rw[Hcl.out];exact bM _),List.take_of_length_le (by rw[List.length_map,Hvl.out];exact bM _)] at h1
    subst dj;have hrd:=oA (Au (base:=0) yV (fT _) Hcl.out (by unfold bB;omega));have Gu:=RdF.up OF hb;have hbf:=eI hb3 hb;have iJ:=hb.size;clear yV hb OF hr3 hb3;go_wp2_with fail;go_fit(BS A2 k c2 w3.heap.size _ _ k k _ V wr Gu iJ hrd (bM _) (by omega) Hvb2.out);rintro e w5 ⟨A5,n5,c5,rfl,rA,hbx⟩;have hbz:=eI hbf hbx;have uQ:=zJ rA hbf.size;clear hbx hbf rA hrd Gu;go_wp2;go_ret2;rw[Hv.out.1,Hv.out.2,Hv2.out.1,Hv2.out.2];exact⟨A5,n5,c5,D,uQ,hbz⟩
theorem CC{Z:List If}{V:List Int}{k:Nat}{s:If}{x:Int}(o:List Int)(hs:Z[k]?=aE s)(hx:V[k]?=aE x):Cc o (((Z.map fun s=>s.2.2).zip V).take (k+1))=(Cc o (((Z.map fun s=>s.2.2).zip V).take k)).set s.2.2 x:=by
 have h1:((Z.map fun s=>s.2.2).zip V)[k]?=aE (s.2.2,x):=by rw[jY,eN,hs];exact⟨D,hx⟩
 rw[fD h1,LI];rfl
theorem PN{l:List eK}{b:List UInt8}(h:jM l b=0):(uT l b).length=l.length:=by
 unfold uT;rw[bY h];exact wR l b
theorem Vt(id:Int)(A':Option aW)(n' c':Nat)(b:List UInt8)(w:aS)(h:Rd w w.heap.size 1 A' n' c' (bv b))(DA:n'≤1000000000):
  aU bH 184 #[O Y id,aL A' n' c'] w (KP w (NT (mW id) b) (RP (mW id) b)):=by
 have hf:=Dq id w;have hN:=Qu id;have hM:=Ot id;have hC:=X5 id;have hmx:=h.max;have hle:=h.le;unfold bB at hmx;generalize mW id=p at*;obtain⟨nm,L⟩:=p;obtain⟨m,hm⟩: ∃m,m=pY L:=⟨_,D⟩;have hs:=fun A n c w h=>Lu nm A n c L w h hN (bU hC (by omega));have hC':m≤300:=by rw[hm];exact hC
 rw[←hm] at hs;have Hf:=bK hf;have Hs:=bK hs;have HN:=bK hN;have HM:=bK hM;have Hm:=bK hm;have Hwl:Hid ((kI L).length=m):=bK (by rw[Il,hm]);have Hat:=bK (fun s (hs:s∈kI L)=>(show s.2.2<m by rw[hm];exact(Oa L s.2.2).1 (List.mem_map.2 ⟨s,hs,D⟩)));clear hf hs hC hm
 cases hem:nm.toList.isEmpty with
 |true=>
  have hv:NT (nm,L) b= []∧RP (nm,L) b=6:=by unfold NT RP;rw[bY hem,bY hem];exact⟨D,D⟩
  have Hv:=bK hv;clear hv hN hM;go_enter func184,ntmps184;go_wp2_with fail;go_fit Hf.out;unfold jS;rintro e w1 ⟨A,n,c,rfl,hr,hb⟩;have a0:=bS w1 (aI #[aH nm,aL A n c] 377);have k0:=bL (i:=0) (v:=aH nm) a0 D;have k1:=bL (i:=1) (v:=aL A n c) a0 D;have hba:aV w1.heap.size w1 (w1.alloc (aI #[aH nm,aL A n c] 377)):=(bP _ _).alloc (bM _) _;have hb2:=eI hb hba;have fF:=bT a0;have hr2:=pQ (tX hr hba) hba.size;clear hr hb hba a0;clear hr2;go_wp2;go_ret2;rw[Hv.out.1,Hv.out.2];exact⟨J,0,0,D,dF _ _ _ _,hb2⟩
 |false=>
  have hv:NT (nm,L) b=Gg L b∧RP (nm,L) b=L5 L b:=by unfold NT RP;rw[bX (by rw[hem];exact nH),bX (by rw[hem];exact nH)];exact⟨D,D⟩
  have Hv:=bK hv;clear hv hN hM;have jv:L5 L b=jM ((kI L).map qG) b:=D;have Hfm:=bK jv;have LW:((kI L).map qG).length=m:=by rw[List.length_map,Hwl.out]
  have Hfl:=bK LW;have tt:jM ((kI L).map qG) b=0→Gg L b=Cc (List.replicate m 0) (((kI L).map fun s=>s.2.2).zip (uT ((kI L).map qG) b)):=fun h0=>by unfold Gg;rw[bY (by rw[jv];exact h0),←Hm.out];unfold D0 uT;rw[bY h0]
  have tu: ¬jM ((kI L).map qG) b=0→Gg L b= []:=fun h0=>by unfold Gg;rw[bX (by rw[jv];exact h0)]
  have Hsv:=bK tt;have Hsv0:=bK tu;clear jv LW tt tu
  cases herr:jM ((kI L).map qG) b with
  |succ er=>
   have tv:=Hsv0.out (by omega);have Hev:=bK tv;have heq:((er+1:Nat):Int)≠0:=by omega
   have hbq:(((er+1:Nat):Int) !=0)=aF:=by simp;omega
   obtain⟨ee,jw⟩: ∃ee:Nat,ee=er+1:=⟨_,D⟩;rw[←jw] at heq hbq herr;have Herr:=bK herr;clear tv herr jw;go_enter func184,ntmps184;go_wp2_with fail;go_fit Hf.out;unfold jS;rintro e w1 ⟨A,n,c,rfl,hr,hb⟩;have a0:=bS w1 (aI #[aH nm,aL A n c] 377);have k0:=bL (i:=0) (v:=aH nm) a0 D;have k1:=bL (i:=1) (v:=aL A n c) a0 D;have hba:aV w1.heap.size w1 (w1.alloc (aI #[aH nm,aL A n c] 377)):=(bP _ _).alloc (bM _) _;have hb2:=eI hb hba;have fF:=bT a0;have hr2:=pQ (tX hr hba) hba.size;clear hr hb hba a0;go_wp2_with fail;generalize(w1.alloc (aI #[aH nm,aL A n c] 377))=w2 at*;go_fit(Hs.out A n c w2 hr2);rintro e w3 ⟨A1,c1,A2,c2,rfl,hr3,OF,hbx⟩;have hb3:=eI hb2 hbx;clear k0 k1 hbx hb2 hr2 fF;go_wp2_with fail;go_fit(qR A2 m c2 w3.heap.size _ A' n' c' w.heap.size b w3 OF (bM _) (h.up hb3) hb3.size (by omega) DA);rintro e w4 ⟨A5,n5,c5,rfl,rA,hbx⟩;have hb4:=eI hb3 hbx;rw[Herr.out];clear hbx hb3 rA hr3 OF;go_wp2;go_ret2;rw[Hv.out.1,Hv.out.2,Hev.out,Hfm.out,Herr.out];exact⟨J,0,0,D,dF _ _ _ _,hb4⟩
  |zero=>
   have tv:=Hsv.out herr;have Hev:=bK tv;have Herr:=bK herr;have Hvl:=bK (PN herr);clear tv herr Hsv Hsv0;have CU:=run_make_row' (P:=bH) 47 2 (O Y 0) 8 qM Jz D Y Y m (by omega) (by omega);rw[F0] at CU;obtain⟨z,hz⟩: ∃z,z=List.replicate m (Value.int Y 0):=⟨_,D⟩;rw[←hz] at CU;have Gc:z=(List.replicate m (0:Int)).map (Value.int Y):=by rw[hz,List.map_replicate]
   have Hz:=bK Gc;clear hz Gc;go_enter func184,ntmps184;go_wp2_with fail;go_fit Hf.out;unfold jS;rintro e w1 ⟨A,n,c,rfl,hr,hb⟩;have a0:=bS w1 (aI #[aH nm,aL A n c] 377);have k0:=bL (i:=0) (v:=aH nm) a0 D;have k1:=bL (i:=1) (v:=aL A n c) a0 D;have hba:aV w1.heap.size w1 (w1.alloc (aI #[aH nm,aL A n c] 377)):=(bP _ _).alloc (bM _) _;have hb2:=eI hb hba;have fF:=bT a0;have hr2:=pQ (tX hr hba) hba.size;clear hr hb hba a0;go_wp2_with fail;generalize(w1.alloc (aI #[aH nm,aL A n c] 377))=w2 at*;go_fit(Hs.out A n c w2 hr2);rintro e w3 ⟨A1,c1,A2,c2,rfl,hr3,OF,hbx⟩;have hb3:=eI hb2 hbx;have ff:=hr3.2.2.2.1;have aCe:=hr3.2.2.1;unfold bB at ff;clear k0 k1 hbx hb2 hr2 fF;go_wp2_with fail;go_fit(qR A2 m c2 w3.heap.size _ A' n' c' w.heap.size b w3 OF (bM _) (h.up hb3) hb3.size (by omega) DA);rintro e w5 ⟨A5,n5,c5,rfl,rA,hbx⟩;have hb5:=eI hb3 hbx;rw[Herr.out];have hrV:=oA rA;have hr5:=pQ (tX hr3 hbx) hbx.size;have hn5:n5=m:=by have:=hrV.len;rw[List.length_map,Hvl.out,Hfl.out] at this;omega
   subst hn5;have aCi:=hrV.max;have aJw:=hrV.le;unfold bB at aCi;clear hbx hb3 rA hr3 OF;have hb6:aV w5.heap.size w5 (w5.alloc (aI z.toArray 2)):=(bP _ _).alloc (bM _) _;have yV:(w5.alloc (aI z.toArray 2)).heap[w5.heap.size]?=aE (aI ((List.replicate n5 (0:Int)).map (Value.int Y)).toArray 2):=by rw[←Hz.out];exact bS w5 (aI z.toArray 2)
   generalize uT ((kI L).map qG) b=V at*;generalize kI L=Z at*;clear Hs Hf HN HM;go_wp2_with fail;generalize(w5.alloc (aI z.toArray 2))=w6 at*;obtain⟨gm,Pj⟩: ∃gm,gm=w5.heap.size:=⟨_,D⟩;have Hgg:=bK Pj;rw[←Pj] at yV ⊢;clear Pj CU;go_loopw [38] (fun i wr=> ∃(k:Nat) (o:List Int),k≤n5∧i=O Y k∧aV w5.heap.size w5 wr∧wr.heap[gm]?=aE (aI (o.map (Value.int Y)).toArray 2)∧Hid (o.length=n5)∧Hid (o=Cc (List.replicate n5 0) (((Z.map fun s=>s.2.2).zip V).take k))) (fun i _=>n5-(bE i).toNat);case atStart=>exact⟨0,List.replicate n5 0,by omega,D,hb6,yV,bK (List.length_replicate ..),bK D⟩
   case round=>
    clear hb6 yV w6;obtain⟨k,o,hk,rfl,hb,yV,Hol,Ho⟩:=hrel;have CW:=bT yV;by_cases fF:k<n5
    ·have z7:(k:Int)<(n5:Int):=by omega
     obtain⟨g,off,x,rfl,hg,hx,hr⟩:=VT hr5 fF;have k0:=(hb.cell (p:=⟨g,off+k*3+0,J⟩) hg).trans (hr 0 _ D);have k1:=(hb.cell (p:=⟨g,off+k*3+1,J⟩) hg).trans (hr 1 _ D);have k2:=(hb.cell (p:=⟨g,off+k*3+2,J⟩) hg).trans (hr 2 _ D);rw[Nat.add_zero] at k0;have MY:=Hat.out x (dD hx);obtain⟨ad,y,rfl,hy,UD,DB⟩:=Fc hrV fF;have xq:=CC (List.replicate n5 0) hx hy;rw[←Ho.out] at xq;obtain⟨z1,g1,Dl⟩:=x;dsimp only at k0 k1 k2 MY xq;have aCf:(Dl:Int)<(n5:Int):=by omega
     have Hsc:=bK xq;have hbn:aV wr.heap.size wr (wr.alloc (aI #[O Y z1,aG g1,O Y (Dl:Int)] 383)):=(bP _ _).alloc (bM _) _;have a0:=bS wr (aI #[O Y z1,aG g1,O Y (Dl:Int)] 383);have d2:=bL (i:=2) (v:=O Y (Dl:Int)) a0 D;have hb7:=eI hb hbn;have ky:=(hb7.cell (p:=ad.add k) (by rw[lL];exact DB)).trans UD;have DW:=(heap_alloc_old wr (aI #[O Y z1,aG g1,O Y (Dl:Int)] 383) (h:=CW)).trans yV;obtain⟨g0,MA⟩: ∃g0,g0=wr.heap.size:=⟨_,D⟩;rw[←MA] at d2;have Hg0:=bK MA;clear hx hr hy UD xq hbn a0 hb yV CW MA;go_wp2_with fail;rw[←Hg0.out];refine cQ (fun _=>True) aD [45,49] (by kernel_rfl) (by kernel_rfl) cM ?_;replace DW:(wr.alloc (aI #[O Y z1,aG g1,O Y (Dl:Int)] 383)).drew.heap[gm]?=_:=DW;replace hb7:=hb7.drew;replace ky:(wr.alloc (aI #[O Y z1,aG g1,O Y (Dl:Int)] 383)).drew.cell? _=_:=ky;replace d2:(wr.alloc (aI #[O Y z1,aG g1,O Y (Dl:Int)] 383)).drew.cell? _=_:=d2;generalize(wr.alloc (aI #[O Y z1,aG g1,O Y (Dl:Int)] 383)).drew=w7 at*;clear k0 k1 k2;have hou:(o.map (Value.int Y))[Dl]?=aE (O Y (o.getD Dl 0)):=by rw[eN,jO,cF (by rw[Hol.out];exact MY)];rfl
     have e1:=bL (i:=Dl) (v:=O Y (o.getD Dl 0)) DW (by rw[dO];exact hou);have e2:=bZ (i:=Dl) DW;have CY:=cN (i:=Dl) DW (O Y y);rw[cE,show((o.map (Value.int Y)).set Dl (O Y y))=(o.set Dl y).map (Value.int Y) from(List.map_set ..).symm] at CY;have hb8:=hb7.setCell (p:=⟨gm,Dl,J⟩) (by rw[Hgg.out];exact bM _) (O Y y);have aCj:Hid ((o.set Dl y).length=n5):=bK (by rw[jQ];exact Hol.out);refine Ord.K ?_;refine Ord.K ?_;refine eP dB D d2 D (by kernel_rfl) (by kernel_rfl) ?_;refine PT ?_;iterate 3 refine Ord.K ?_
     refine eP cO D ky D (by kernel_rfl) (by kernel_rfl) ?_;refine PT ?_;refine Ord.K ?_;refine Ord.X ?_;go_wp2;refine cC cM (fun h=>by cases h) ?_;refine PT ?_;refine cV ?_;generalize(w7.setCell ⟨gm,Dl,J⟩ (O Y y))=w8 at*;clear DW hb7 ky d2 hou e1 e2;go_wp2;go_roundw;case rel=>exact⟨k+1,o.set Dl y,by omega,by go_num,hb8,CY,aCj,bK Hsc.out.symm⟩
     case measure=>simp[bE];omega
    ·obtain rfl:k=n5:=by omega
     have htk:((Z.map fun s=>s.2.2).zip V).take k=(Z.map fun s=>s.2.2).zip V:=List.take_of_length_le (by rw[List.length_zip,List.length_map,Hwl.out];omega);rw[htk] at Ho;have hbf:=eI hb5 hb;have own:=Au (base:=w.heap.size) (n:=k) yV (by rw[Hgg.out];exact hb5.size) (by rw[List.length_map];exact Hol.out) (by unfold bB;omega);clear yV hb hb5 htk hr5 hrV;go_wp2;go_ret2;rw[Hv.out.1,Hv.out.2,Hev.out,Hfm.out,Herr.out,←Ho.out];exact⟨_,_,_,D,own,hbf⟩
end
section
open Go.RowKit NumLaw
theorem RO{α:Type}{f:α→Bool}{l:List α}{k:Nat}{x:α}(h:l[k]?=aE x)(hx:f x=aD): ¬l.all f=aF:=fun hh=>by
 rw[vE] at hh;have:=hh x (dD h);rw[hx] at this;exact nH this
end
section
open Go.RowKit NumLaw
attribute [local go_sem] Addr.add_mid
attribute [-go_sem] run_eql_struct run_neq_struct
theorem RL{p:uV}{v:List Int}(h: ¬AP p v=0):Pz p v= []:=by
 unfold AP at h;unfold Pz;split
 ·rfl
 ·rename_i hn;rw[bX hn] at h;unfold Dw at h;unfold zF;split
  ·rename_i hv;rw[bY hv] at h;unfold Mq;rw[bX h]
  ·rfl
theorem TO{p:uV}{v:List Int}(hq:iq p.2)(h:AP p v=0):RP p (Pz p v)=0∧NT p (Pz p v)=v∧(Pz p v).length=Gp p.2∧v.length=pY p.2:=by
 unfold AP at h;unfold RP NT Pz;split at h
 ·cases h
 ·rename_i hn;rw[bX hn,bX hn,bX hn];exact Z4 hq h
end
section
open Go.RowKit NumLaw
attribute [local go_sem] Addr.add_mid
attribute [-go_sem] run_eql_struct run_neq_struct
open CrcLaw
theorem CE(id:Int)(w:aS):aU bH 213 #[O Y id] w fun e w'=>e=aJ (O aP (YX (mW id)))∧aV w.heap.size w w':=by
 have hf:=Dq id w;have hN:=Qu id;have hM:=Ot id;generalize mW id=p at*;obtain⟨nm,L⟩:=p;have Hf:=bK hf;have HN:=bK hN;have HM:=bK hM
 cases hem:nm.toList.isEmpty with
 |true=>
  have hv:YX (nm,L)=0:=by unfold YX;rw[bY hem]
  have Hv:=bK hv;clear hf hN hM hv;go_enter func213,ntmps213;go_wp2_with fail;go_fit Hf.out;unfold jS;rintro e w1 ⟨A,n,c,rfl,hr,hb⟩;have a0:=bS w1 (aI #[aH nm,aL A n c] 377);have k0:=bL (i:=0) (v:=aH nm) a0 D;have hb2:=hb.alloc hb.size (aI #[aH nm,aL A n c] 377);go_wp2;go_ret;exact⟨by rw[Hv.out];rfl,hb2⟩
 |false=>
  have hv:YX (nm,L)=(((moreN 65535 (VL (nm,L))% 256)^^^(moreN 65535 (VL (nm,L))/256):Nat):Int):=by unfold YX;rw[bX (by rw[hem];exact Bool.false_ne_true)]
  have Hv:=bK hv;have Ga:(nm++⟨#[32]⟩).size≤200:=by rw[jB];have h9:nm.size≤100:=HM.out.1;have:(⟨#[32]⟩:ByteArray).size=1:=D;omega
  have LY:(nm++⟨#[32]⟩:ByteArray).size=nm.size+1:=by rw[jB];rfl
  have Hsz1:=bK LY;have Hns:=bK Ga;have XM:nm.size≤100:=HM.out.1;have aJ8:nm.size+1≤9223372036854775807:=by omega
  have aJ9: ¬9223372036854775807<nm.size+1:=by omega
  have dj:=fun w=>Lib.run_convert_string_bytes (P:=bH) w 9 22 5 (nm++⟨#[32]⟩) rO dH underlying5;clear hf hN hM hv Ga LY;go_enter func213,ntmps213;go_wp2_with fail;go_fit Hf.out;unfold jS;rintro e w1 ⟨A,n,c,rfl,hr,hb⟩;have a0:=bS w1 (aI #[aH nm,aL A n c] 377);have k0:=bL (i:=0) (v:=aH nm) a0 D;have k1:=bL (i:=1) (v:=aL A n c) a0 D;have hba:aV w1.heap.size w1 (w1.alloc (aI #[aH nm,aL A n c] 377)):=(bP _ _).alloc (bM _) _;have hb2:=eI hb hba;have fF:=bT a0;have hs2:(w1.alloc (aI #[aH nm,aL A n c] 377)).heap.size=w1.heap.size+1:=cL _ _;have Hs2:=bK hs2;clear hs2;have hr2:=pQ (tX hr hba) hba.size;clear hr hb hba a0;go_wp2_with fail;generalize(w1.alloc (aI #[aH nm,aL A n c] 377))=w2 at*;have hrd:=P7 w2 5 (nm++⟨#[32]⟩) (by have:=Hns.out;unfold bB;omega);rw[Hsz1.out] at hrd;have hbb:=Bm w2 5 (nm++⟨#[32]⟩);have NI:w2.heap.size+1≤(Lib.bytesWorld w2 5 (nm++⟨#[32]⟩)).heap.size:=Nat.le_of_eq (Lib.bytesWorld_size _ _ _).symm;rw[Hs2.out] at hrd NI;go_fit(Jk 65535 _ _ _ _ _ _ (by omega) hrd NI);rintro e w3 ⟨rfl,hbx⟩;have hb23:=eI hbb hbx;have hb3:=eI hb2 hb23;have q1:=(hb23.cell (p:=⟨w1.heap.size,1,J⟩) fF).trans k1;have hr3:RdP w3 w3.heap.size A n c L:=pQ (tX hr2 hb23) hb23.size;have hn:n≤1000:=by rw[←hr3.len];have:=HN.out.2.1;omega
  clear hrd hbb NI hbx hb23 hb2 k0 k1 hr2 dj;go_wp2_with fail;go_fit(U8 A n c L w3 hr3 hn);rintro e w4 ⟨A4,c4,rfl,hr4,hbx⟩;have hb4:=eI hb3 hbx;have hmx:=hr4.2.2.2.1;have hle:=hr4.2.2.1;unfold bB at hmx;obtain⟨W,hW⟩: ∃W,W=Bw PtT.sz L:=⟨_,D⟩;rw[←hW] at hr4;have hWN: ∀x∈W,Tt x.sz∧B2 x.mn≤100∧x.nm.size≤100:=fun x hx=>by rw[hW] at hx;have hx:=(Yk PtT.sz L).1 hx;exact⟨HN.out.1 x hx,HN.out.2.2 x hx,HM.out.2.1 x hx⟩
  have HWN:=bK hWN;have HW:=bK hW;have Hll:=bK hr4.len;have Dh:moreN 65535 (CB (nm++⟨#[32]⟩))<65536:=moreN_lt _ (by omega);obtain⟨d0,hd0⟩: ∃d,d=moreN 65535 (CB (nm++⟨#[32]⟩)):=⟨_,D⟩;rw[←hd0] at Dh ⊢;have Hd0:=bK hd0;clear hbx hb3 q1 hr3 fF hW hWN hd0;go_wp2_with fail;go_loopw [4,21] (fun cc i wr=> ∃k d:Nat,k≤n∧i=O Y k∧cc=O .u16 (d:Int)∧d<65536∧Hid (d=moreN 65535 (CB (nm++⟨#[32]⟩)++(W.take k).flatMap QU))∧aV w4.heap.size w4 wr) (fun _ i _=>n-(bE i).toNat);case atStart=>exact⟨0,d0,by omega,D,D,Dh,bK (by rw[Hd0.out];simp),bP _ _⟩
  case round=>
   obtain⟨k,d,hk,rfl,rfl,hd,Hd,hb⟩:=hrel;by_cases fF:k<n
   ·have z7:(k:Int)<(n:Int):=by omega
    obtain⟨g,off,x,rfl,hg,hx,hr⟩:=RdP.at_ hr4 fF;have k0:=(hb.cell (p:=⟨g,off+k*4+0,J⟩) hg).trans (hr 0 _ D);have k1:=(hb.cell (p:=⟨g,off+k*4+1,J⟩) hg).trans (hr 1 _ D);have k2:=(hb.cell (p:=⟨g,off+k*4+2,J⟩) hg).trans (hr 2 _ D);have k3:=(hb.cell (p:=⟨g,off+k*4+3,J⟩) hg).trans (hr 3 _ D);rw[Nat.add_zero] at k0;obtain⟨hz,hm,XM⟩:=HWN.out x (dD hx);have hwd:=fun w=>LD x hz w;have hes:=XZ hz XM;have P6:(W.take (k+1)).flatMap QU=(W.take k).flatMap QU++QU x:=by rw[fD hx,oM];simp
    have Hfl:=bK P6;obtain⟨s,z,g1,m⟩:=x;have uk:kg ⟨s,z,g1,m⟩=Gi z g1++⟨#[32]⟩++s++⟨#[32]⟩:=D;have hel:QU ⟨s,z,g1,m⟩=CB (kg ⟨s,z,g1,m⟩)++if 0<m then [UInt8.ofNat m.toNat] else []:=D;dsimp only at k0 k1 k2 k3 hm;have um: ∀w,aU bH 257 #[aM (pH ⟨s,z,g1,m⟩).toArray] w fun e w'=>e=aJ (aH (Gi z g1))∧aV w.heap.size w w':=hwd;have XN:(Gi z g1).size≤8:=X8 hz g1;have Kl:s.size≤100:=XM;generalize Gi z g1=wz at*;have hq1:wz.size+1≤9223372036854775807:=by omega
    have M7:wz.size+1+s.size≤9223372036854775807:=by omega
    have hq3:wz.size+1+s.size+1≤9223372036854775807:=by omega
    have hr1: ¬9223372036854775807<wz.size+1:=by omega
    have hr2: ¬9223372036854775807<wz.size+1+s.size:=by omega
    have hr3: ¬9223372036854775807<wz.size+1+s.size+1:=by omega
    have dj:=fun w=>Lib.run_convert_string_bytes (P:=bH) w 9 22 5 (wz++⟨#[32]⟩++s++⟨#[32]⟩) rO dH underlying5;rw[uk] at hes hel;have Hel:=bK hel;have Hes:=bK hes;have Hwd:=bK um;have Hmx:=bK hm;have hbn:aV wr.heap.size wr (wr.alloc (aI #[aH s,O Y z,aG g1,O Y m] 448)):=(bP _ _).alloc (bM _) _;have a0:=bS wr (aI #[aH s,O Y z,aG g1,O Y m] 448);have hb0:wr.heap.size<(wr.alloc (aI #[aH s,O Y z,aG g1,O Y m] 448)).heap.size:=bT a0;have hrow:(wr.alloc (aI #[aH s,O Y z,aG g1,O Y m] 448)).rangeAt wr.heap.size 0 (pH ⟨s,z,g1,m⟩):=fun j v hv=>bL (i:=0+j) a0 (by rw[fZ];simpa [pH] using hv);have hb5:=eI hb hbn;clear hb hbn a0 hx hr hwd um uk hel hes hm P6 hz XM;go_wp2_with fail;generalize(wr.alloc (aI #[aH s,O Y z,aG g1,O Y m] 448))=w5 at*;obtain⟨b0,hbb⟩: ∃b,b=wr.heap.size:=⟨_,D⟩;rw[←hbb] at hb0 hrow ⊢;have Hrow:=bK (show∀w',aV w5.heap.size w5 w'→w'.rangeAt b0 0 (pH ⟨s,z,g1,m⟩) from fun w' hb' j v hv=>(hb'.cell (p:=⟨b0,0+j,J⟩) hb0).trans (hrow j v hv));have Hnm:=bK (show∀w',aV w5.heap.size w5 w'→w'.cell? ⟨b0,0,J⟩=aE (aH s) from fun w' hb'=>Hrow.out w' hb' 0 _ D);have Hmn:=bK (show∀w',aV w5.heap.size w5 w'→w'.cell? ⟨b0,3,J⟩=aE (O Y m) from fun w' hb'=>Hrow.out w' hb' 3 _ D);clear k0 k1 k2 k3 hrow hbb;refine cQ (fun w'=>aV w5.heap.size w5 w') aD [] (by kernel_rfl) (by kernel_rfl) (bP _ _).drew ?_;have hS:aV w5.heap.size w5 w5.drew:=(bP _ _).drew;generalize w5.drew=wd at*;refine Ord.K ?_;refine eA (cs:=pH ⟨s,z,g1,m⟩) (b:=b0) (o:=0) nE D (by kernel_rfl) D (by simp[pH]) (fun w' hS=>Hrow.out w' hS) hS (by kernel_rfl) ?_;refine PT ?_;refine Ord.X ?_;go_wp2_with fail;go_fit(Hwd.out wd);rintro e w6 ⟨rfl,hbx⟩;replace hS:=eI hS hbx;go_wp2_with fail;refine cC hS (fun h=>by cases h) ?_;refine PT ?_;clear hbx;refine Ord.K ?_;refine Ord.K ?_;refine cR (ad:=⟨b0,0,J⟩) rO D (fun w' hS=>Hnm.out w' hS) hS D (by kernel_rfl) ?_;refine PT ?_;refine Ord.K ?_;refine Ord.K ?_;refine Ord.e_x (by kernel_rfl) (by kernel_rfl) ?_;go_wp2_with fail;refine cC (eI hS (Bm _ _ _)) (fun h=>by cases h) ?_;refine PT ?_;have hrd:=P7 w6 5 (wz++⟨#[32]⟩++s++⟨#[32]⟩) (by have:=Hes.out;unfold bB;omega)
    have iJ:(wz++⟨#[32]⟩++s++⟨#[32]⟩:ByteArray).size=wz.size+1+s.size+1:=by rw[jB,jB,jB];rfl
    rw[iJ] at hrd;replace hS:=eI hS (Bm w6 5 (wz++⟨#[32]⟩++s++⟨#[32]⟩));have NI:w6.heap.size+1≤(Lib.bytesWorld w6 5 (wz++⟨#[32]⟩++s++⟨#[32]⟩)).heap.size:=Nat.le_of_eq (Lib.bytesWorld_size _ _ _).symm;refine Ord.X ?_;go_wp2_with fail;go_fit(Jk d _ _ _ _ _ _ hd hrd NI);rintro e w7 ⟨rfl,hbx⟩;replace hS:=eI hS hbx;go_wp2_with fail;refine cC hS (fun h=>by cases h) ?_;refine PT ?_;refine Ord.K ?_;refine cV ?_;have hb7:=eI hb5 hS;have XC:=Hmn.out w7 hS;have hmx:=Hmx.out;obtain⟨d1,VE⟩: ∃d1,d1=moreN d (CB (wz++⟨#[32]⟩++s++⟨#[32]⟩)):=⟨_,D⟩;have js:d1<65536:=by rw[VE];exact moreN_lt _ hd
    rw[←VE];have Hd1:=bK VE;clear VE hS hb5;by_cases Dh:0<m
    ·obtain⟨mm,rfl⟩: ∃mm:Nat,m=(mm:Int):=⟨m.toNat,by omega⟩;have Tv:mm<256:=by unfold B2 at hmx;split at hmx<;>omega
     have hw8:IntKind.u8.wrap (mm:Int)=(mm:Int):=by rw[IntKind.wrap_u8'];omega
     have HN2:=bK (show moreN 65535 (CB (nm++⟨#[32]⟩)++(W.take (k+1)).flatMap QU)=stepN d1 mm from by
      rw[Hfl.out,Hel.out,bY Dh,←List.append_assoc,←List.append_assoc,moreN_snoc,moreN_append,←Hd.out,←Hd1.out];have e1:(UInt8.ofNat (mm:Int).toNat).toNat=mm:=by rw[qP,iT];omega
      rw[e1])
     have hd2:stepN d1 mm<65536:=stepN_lt js Tv;go_wp2_with fail;go_fit(Sv d1 mm w7 js Tv);rintro e w8 ⟨rfl,rfl⟩;go_wp2_with fail;go_roundw;case rel=>exact⟨k+1,_,by omega,D,D,hd2,bK HN2.out.symm,hb7⟩
     case measure=>simp[bE];omega
    ·have HN2:=bK (show moreN 65535 (CB (nm++⟨#[32]⟩)++(W.take (k+1)).flatMap QU)=d1 from by
      rw[Hfl.out,Hel.out,bX Dh,List.append_nil,←List.append_assoc,moreN_append,←Hd.out,←Hd1.out])
     go_wp2_with fail;go_roundw;case rel=>exact⟨k+1,_,by omega,D,D,js,bK HN2.out.symm,hb7⟩
     case measure=>simp[bE];omega
   ·obtain rfl:k=n:=by omega
    have hWt:W.take k=W:=List.take_of_length_le (by rw[Hll.out];exact bM _);have hda:d=moreN 65535 (VL (nm,L)):=by rw[Hd.out,hWt];show _=moreN 65535 (CB (nm++⟨#[32]⟩)++(Bw PtT.sz L).flatMap QU);rw[←HW.out]
    have hv:=Hv.out;rw[←hda] at hv;have Hv2:=bK hv;have hx:=u8_xor_nat (d % 256) (d/256) (by omega) (by omega);clear hda hv hWt;go_wp2;go_ret;refine⟨?_,eI hb4 hb⟩;rw[Hv2.out,←hx];rfl
end
end Go.Proofs.YtfoabhdppkjmbaaGreat
