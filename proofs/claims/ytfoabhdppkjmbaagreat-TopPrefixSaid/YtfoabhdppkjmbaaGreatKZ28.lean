import Derived.Test.YtfoabhdppkjmbaaGreatKZ26
set_option linter.unusedSimpArgs false
set_option linter.unusedVariables false
set_option maxHeartbeats 8000000
set_option maxRecDepth 20000
namespace Go.Proofs.YtfoabhdppkjmbaaGreat
open Bool renaming false→aD,true→aF
open Go renaming Addr→aW,Calls→aU,Ending→aX,Program→aZ,TypeId→aY,Value→aT,World→aS,maxLen→bB,method→bG,typeInfo→bF
open Go.Ending renaming returned→aJ
open Go.IntKind renaming i32→aO,i64→Y,u32→aR
open Go.Obj renaming cells→aI
open Go.Proofs.Tryz renaming prog→bH
open Go.RowKit renaming Below→aV,intOf→bE
open Go.Value renaming agg→aM,bool→aG,int→O,pointer→aK,slice→aL,string→aH,tuple→aN
open Option renaming none→J,some→aE
open Go.Proofs.Tryz
namespace NumLaw
end NumLaw
section
open Go.RowKit NumLaw
attribute [local go_sem] Addr.add_mid
abbrev uL:=@underlying44
theorem KQ(w:aS):aU bH 60 #[O Y 100] w fun e w'=>e=aJ (aG aF)∧w=w':=by
 go_enter func60,ntmps60;go_wp2;go_ret;exact⟨D,D⟩
theorem Xw(w:aS):aU bH 60 #[O Y 1000] w fun e w'=>e=aJ (aG aF)∧w=w':=by
 go_enter func60,ntmps60;go_wp2;go_ret;exact⟨D,D⟩
theorem B5(gq gm:Nat)(A:Option aW)(n c:Nat)(w:aS)(h:w.heap[gq]?=aE (aI #[aL A n c,.map (aE gm)] 171)):
  aU bH 59 #[aK (aE ⟨gq,0,J⟩)] w fun e w'=>e=aJ (aG aF)∧w=w':=by
 have c1:=bL (i:=1) (v:= .map (aE gm)) h D;have hq: ∀w,(binOp .neq 167 (.map (aE gm)) (.map J)).run bH w= .ok (aG aF) w:=fun w=>by kernel_rfl
 go_enter func59,ntmps59;go_wp2;go_ret;exact⟨D,D⟩
theorem ah(w:aS):aU bH 12 #[] w fun e w'=>e=aJ (aM #[O aO 1073741824,O aO 0,O aO 0,O aO 0,O aO 0,O aO 0,O aO 0,O Y 0,O Y 0])∧aV w.heap.size w w':=by
 have a0:=bS w (aI #[O aO 0,O aO 0,O aO 0,O aO 0,O aO 0,O aO 0,O aO 0,O Y 0,O Y 0] 44);have hb:aV w.heap.size w (w.alloc (aI #[O aO 0,O aO 0,O aO 0,O aO 0,O aO 0,O aO 0,O aO 0,O Y 0,O Y 0] 44)):=(bP _ _).alloc (bM _) _;go_enter func12,ntmps12;go_wp2_with fail;go_fit(zc _);rintro e w2 ⟨rfl,hbx⟩;have a2:=bV a0 hbx (bT a0);have hb2:=eI hb hbx;have hb3:=below_setRow hb2 (bM _) (#[O aO 1073741824,O aO 0,O aO 0,O aO 0,O aO 0,O aO 0,O aO 0,O Y 0,O Y 0]:Array aT);have h3:=setRow_heap _ _ _ (#[O aO 1073741824,O aO 0,O aO 0,O aO 0,O aO 0,O aO 0,O aO 0,O Y 0,O Y 0]:Array aT) _ _ a2;have HY:=bK (bO a2 (bO hb3 h3));clear a0 hb hbx a2 hb2 hb3 h3;go_wp2_with(with_reducible refine sG [44] ?_);obtain⟨a2,hb3,h3⟩:=HY.out;refine eL (wpList_store_row D _ _ _ D w.heap.size (#[O aO 1073741824,O aO 0,O aO 0,O aO 0,O aO 0,O aO 0,O aO 0,O Y 0,O Y 0]:Array aT) D D _ _ a2 (by kernel_rfl) D (by kernel_rfl) ?_);simp only[Act.put];repeat go_step
 exact bR (tW D _ _ w.heap.size _ _ _ _ D h3 uL D (by kernel_rfl)) D ⟨D,hb3⟩
theorem SB(ga gb:Nat)(ia xa ea pa ib xb eb pb:Int)(w:aS)(ha:w.heap[ga]?=aE (aI #[O Y ia,O Y xa,O Y ea,O Y pa] 183))(hb:w.heap[gb]?=aE (aI #[O Y ib,O Y xb,O Y eb,O Y pb] 183)):
  aU bH 416 #[aK (aE ⟨ga,0,J⟩),aK (aE ⟨gb,0,J⟩)] w fun e w'=>e=aJ (aG (decide (xa<xb∨(xa=xb∧ia<ib))))∧aV w.heap.size w w':=by
 have a0:=bL (i:=0) (v:=O Y ia) ha D;have a1:=bL (i:=1) (v:=O Y xa) ha D;have b0:=bL (i:=0) (v:=O Y ib) hb D;have b1:=bL (i:=1) (v:=O Y xb) hb D;obtain⟨r,hr⟩: ∃r,r=decide (xa<xb∨(xa=xb∧ia<ib)):=⟨_,D⟩;rw[←hr];have HR:=bK hr;clear ha hb hr;by_cases h1:xa<xb
 ·have hR:r=aF:=by rw[HR.out];simp[h1]
  subst hR;go_enter func416,ntmps416;go_wp2_with fail;go_quiet (fail);go_wp2;go_ret;exact⟨D,qS (bP _ _) _⟩
 by_cases h2:xa=xb
 ·by_cases h3:ia<ib
  ·have hR:r=aF:=by rw[HR.out];simp[h2,h3]
   subst hR;subst h2;go_enter func416,ntmps416;go_wp2_with fail;go_quiet (fail);go_wp2;go_ret;exact⟨D,qS (bP _ _) _⟩
  ·have hR:r=aD:=by rw[HR.out];simp[h2,h3]
   subst hR;subst h2;go_enter func416,ntmps416;go_wp2_with fail;go_quiet (fail);go_wp2;go_ret;exact⟨by simp[h3],qS (bP _ _) _⟩
 ·have hR:r=aD:=by rw[HR.out];simp[h1,h2]
  subst hR;go_enter func416,ntmps416;go_wp2_with fail;go_quiet (fail);go_wp2;go_ret;exact⟨by simp[h1],qS (bP _ _) _⟩
end
section
open Go.RowKit NumLaw
attribute [local go_sem] Addr.add_mid
attribute [local go_sem] Oper.semAt_some
theorem kv:(Tryz.prog.info? 46).map (fun i=>(i.zero,i.size,i.bytes))=aE (aE (O aR 0),1,4):=by kernel_rfl
def ir(k:Nat):List aT:=O aR 0::List.replicate k (O aR 512)
def IK(w:aS)(g4 g5:Nat)(pre:List (Nat × Nat))(W:aS):Prop:=
 aV w.heap.size w W∧W.heap[g4]?=aE (aI #[O aO 1073741824,O aO 0,O aO 0,O aO 0] 252)∧W.heap[g5]?=aE (aI #[O Y 0] 3)∧
 W.heap[g5+1]?=aE (aI #[(.func (.func 203) #[] #[aK (aE ⟨g4,0,J⟩),aK (aE ⟨g5,0,J⟩)])] 367)∧g5+5≤W.heap.size∧
 ∃A c,W.heap[g5+3]?=aE (aI #[aL A (pre.length+1) c] 368)∧W.ownsRow (g5+2) 46 1 (aL A (pre.length+1) c) (pre.length+1) (ir pre.length)∧
  ∀k,(Value.slice A (pre.length+1) c).ownBlock=aE k→k=g5+2∨g5+7≤k
theorem ot{w:aS}{g4 g5:Nat}{pre:List (Nat × Nat)}{A B:aS}(h:IK w g4 g5 pre A)(h4:g4<g5)(hw:w.heap.size≤g4)(ha:Aw (fun k=>False∨k=g5+5∨k=g5+6) A B):IK w g4 g5 pre B:=by
 obtain⟨i0,i1,i2,i3,i4,Ap,cp,i5,i6,i7⟩:=h;have ha':=ha.mono (U':=fun k=>g5+5≤k∧k≤g5+6) (fun k hk=>by rcases hk with h|h|h;exact h.elim;omega;omega);exact⟨gJ i0 ha' (fun k hk=>by omega) (by omega),ha'.keep i1 (by omega),ha'.keep i2 (by omega),ha'.keep i3 (by omega),bU i4 ha.size,Ap,cp,ha'.keep i5 (by omega),iZ i6 ha' (fun k hk hu=>by have:=i7 k hk;omega),i7⟩
theorem my(w:aS):aU bH 159 #[aM #[O aO 1073741824,O aO 0,O aO 0,O aO 0]] w fun e w'=>e=aJ (aN #[O aR 537395712,aG aF])∧aV w.heap.size w w':=by
 have a0:=bS w (aI #[O aO 1073741824,O aO 0,O aO 0,O aO 0] 40);have hb:aV w.heap.size w (w.alloc (aI #[O aO 1073741824,O aO 0,O aO 0,O aO 0] 40)):=(bP _ _).alloc (bM _) _;have c0:=bL (i:=0) (v:=O aO 1073741824) a0 D;have c1:=bL (i:=1) (v:=O aO 0) a0 D;have c2:=bL (i:=2) (v:=O aO 0) a0 D;have c3:=bL (i:=3) (v:=O aO 0) a0 D;refine(rK (n:=9)).1 ?_;have Lk:Fence.wide.round=J:=D;refine lH func159 D cM ?_ Lk;simp only[ntmps159,cG,List.length_cons,hH,Nat.reduceAdd,Nat.reduceSub,gH,gG,iQ,gR,eF,dS];gi_wp2_with fail;refine⟨cM,(callsIn_wide.2 (kIs _)).mono ?_⟩;rintro x w2 ⟨rfl,hbx⟩;have hb2:=eI hb hbx;have a2:=bV a0 hbx (bT a0);clear a0 hbx c0 c1 c2 c3 hb;have c0:=bL (i:=0) (v:=O aO 1073741824) a2 D;have c1:=bL (i:=1) (v:=O aO 0) a2 D;have c2:=bL (i:=2) (v:=O aO 0) a2 D;have c3:=bL (i:=3) (v:=O aO 0) a2 D;clear a2;have hS2:=bK hb2;clear hb2;gi_wp2_with(with_reducible refine yL 252 ?_);have m4:=bS w2 (aI #[O aO 0,O aO 0,O aO 0,O aO 0] 252);have b4:aV w2.heap.size w2 (w2.alloc (aI #[O aO 0,O aO 0,O aO 0,O aO 0] 252)):=(bP _ _).alloc (bM _) _;refine eL (H7 D (wpList_store_row D _ _ _ D w2.heap.size (#[O aO 1073741824,O aO 0,O aO 0,O aO 0]:Array aT) D D _ _ m4 (by kernel_rfl) D (by kernel_rfl) ⟨D,?_⟩));have m5:=setRow_heap _ _ _ (#[O aO 1073741824,O aO 0,O aO 0,O aO 0]:Array aT) _ _ m4;have b5:=below_setRow b4 (bM _) (#[O aO 1073741824,O aO 0,O aO 0,O aO 0]:Array aT);have hb5:=eI hS2.out b5;have hg4:=bT m5;have wy:=hS2.out.size;clear c0 c1 c2 c3 m4 b4 b5 hS2;generalize G4:((w2.alloc (aI #[O aO 0,O aO 0,O aO 0,O aO 0] 252)).setRow w2.heap.size #[O aO 1073741824,O aO 0,O aO 0,O aO 0])=w5 at*;clear G4;generalize hg:w2.heap.size=g4 at*;clear hg;have d0:=bL (i:=0) (v:=O aO 1073741824) m5 D;have d1:=bL (i:=1) (v:=O aO 0) m5 D;have d2:=bL (i:=2) (v:=O aO 0) m5 D;have d3:=bL (i:=3) (v:=O aO 0) m5 D;gi_wp2_with fail;refine⟨cM,(callsIn_wide.2 (ze _)).mono ?_⟩;rintro x w6 ⟨rfl,hbx⟩;have hb6:=eI hb5 hbx;have m6:=bV m5 hbx hg4;have vk:g4<w6.heap.size:=cI hg4 hbx.size;clear d0 d1 d2 d3 hb5 hbx m5 hg4
 have hO:=RE ((((w6.alloc (aI #[O Y 0] 3)).alloc (aI #[(.func (.func 203) #[] #[aK (aE ⟨g4,0,J⟩),aK (aE ⟨w6.heap.size,0,J⟩)])] 367)).alloc (aI #[O aR 0] 46)).alloc (aI #[aL (aE ⟨w6.heap.size+2,0,J⟩) 1 1] 368));obtain⟨p0,p1,p2,p3,p4,iJ,hb7⟩:=al5 w6 (aI #[O Y 0] 3) (aI #[(.func (.func 203) #[] #[aK (aE ⟨g4,0,J⟩),aK (aE ⟨w6.heap.size,0,J⟩)])] 367) (aI #[O aR 0] 46) (aI #[aL (aE ⟨w6.heap.size+2,0,J⟩) 1 1] 368) (aI #[O Y 0] 3);have HO:=bK hO;have H0:=bK (bO p0 (bO p1 (bO p2 (bO p3 (bO p4 (bO iJ hb7))))));clear hO p0 p1 p2 p3 p4 iJ hb7;gi_wp2_with fail;refine⟨cM,(callsIn_wide.2 HO.out).mono ?_⟩;rintro x w7 ⟨rfl,rfl⟩;clear HO;gi_wp2_with fail;obtain⟨p0,p1,p2,p3,p4,iJ,hb7⟩:=H0.out;clear H0;have hbw:=eI hb6 hb7;have m7:=bV m6 hb7 vk;generalize hw7:(((((w6.alloc (aI #[O Y 0] 3)).alloc (aI #[(.func (.func 203) #[] #[aK (aE ⟨g4,0,J⟩),aK (aE ⟨w6.heap.size,0,J⟩)])] 367)).alloc (aI #[O aR 0] 46)).alloc (aI #[aL (aE ⟨w6.heap.size+2,0,J⟩) 1 1] 368)).alloc (aI #[O Y 0] 3))=w7 at*;clear hw7 hb6 hb7 m6;generalize hg5:w6.heap.size=g5 at*;clear hg5;have Hsz:=bK iJ;clear iJ;have iJ:=Hsz.out
 refine vP D (wU func244 (by kernel_rfl) D) (Ql (g5+4) _) (fun W hW=>hW.keep p4 (fun hk=>hk)) (fun x=>rfl) (fun k hk=>hk.elim) (fun k hk=>by rw[hk,iJ];omega)
  (IK w g4 g5) (fun _ _ _=>False) ?hI ?hIx ?h0 (fun x=> { tmps:= #[aM #[O aO 1073741824,O aO 0,O aO 0,O aO 0],aK (aE ⟨w.heap.size,0,J⟩),O aR 0,aG aD,aK (aE ⟨g4,0,J⟩),aK (aE ⟨g5,0,J⟩),aK (aE ⟨g5+1,0,J⟩),aK (aE ⟨g5+1+1+1,0,J⟩),undef,O Y (x.2:Int),aM #[O aO 1073741824,O aO 0,O aO 0,O aO 0],aG aF,aG aD,aK (aE ⟨w.heap.size,0,J⟩),O aO 1073741824,aK (aE ⟨w.heap.size,1,J⟩),O aO 0,aK (aE ⟨w.heap.size,2,J⟩),O aO 0,aK (aE ⟨w.heap.size,3,J⟩),O aO 0,aM #[O aO 1073741824,O aO 0,O aO 0,O aO 0],aM #[O aO 1073741824,O aO 0,O aO 0,O aO 0],O Y 0,(.func (.func 203) #[] #[aK (aE ⟨g4,0,J⟩),aK (aE ⟨g5,0,J⟩)]),O Y 0,O aR 0,aL (aE ⟨g5+1+1,0,J⟩) 1 1,O Y 0,.func (.func 244) #[] #[aK (aE ⟨g5+1+1+1+1,0,J⟩)],O Y (x.1:Int),O Y (x.2:Int),undef,undef,undef,undef,undef,undef,undef,undef,undef,undef,undef,undef,undef,undef],defers:= [] }) ?assign ?body ?done ?stop
 case hI=>rintro pre A B h hab;rw[iJ] at hab;exact ot h vk wy hab
 case hIx=>rintro cc pre A1 B1 hf;exact hf.elim
 case stop=>rintro cc pre W hpre hf;exact hf.elim
 case h0=>exact⟨hbw,m7,p0,p1,by omega,aE ⟨g5+2,0,J⟩,1,p3,⟨D,.inr ⟨g5+2,1,#[O aR 0],D,bM _,p2,bM _,by decide,D,D⟩⟩,fun k hk=> .inl (by injection hk with hk;exact hk.symm)⟩
 case assign=>rintro l ⟨kx,ix⟩ W K hK;unfold nl;gi_wp2;exact hK
 case body=>
  rintro pre ⟨kx,ix⟩ W ⟨i0,i1,i2,i3,i4,Ap,cp,i5,i6,i7⟩ hpre zB;rw[iJ] at zB;have Am:pre.length+1≤3:=by have:=hpre.length_le;simpa [iw] using this
  have hi:ix=1∨ix=2∨ix=3:=by have:=hpre.subset (qC _ cP);simp[iw] at this;omega
  have hA0:Aw (fun k=>(Value.slice Ap (pre.length+1) cp).ownBlock=aE k∨k=g5+3) W W.drew:=(cY _ _).drew;replace i0:=i0.drew;replace i1:W.drew.heap[g4]?=_:=i1;replace i2:W.drew.heap[g5]?=_:=i2;replace i3:W.drew.heap[g5+1]?=_:=i3;replace i5:W.drew.heap[g5+3]?=_:=i5;replace i6:W.drew.ownsRow (g5+2) 46 1 (aL Ap (pre.length+1) cp) (pre.length+1) (ir pre.length):=i6;have c32:W.drew.cell? ⟨g5+1+1+1,0,J⟩=aE (aL Ap (pre.length+1) cp):=bL i5 D;have c33:W.drew.cell? ⟨g5+1,0,J⟩=aE (.func (.func 203) #[] #[aK (aE ⟨g4,0,J⟩),aK (aE ⟨g5,0,J⟩)]):=bL i3 D;have c36:W.drew.cell? ⟨g4,ix,J⟩=aE (O aO 0):=by rcases hi with rfl|rfl|rfl<;>exact bL i1 D
  obtain⟨pl,Di⟩: ∃pl,pl=pre.length:=⟨_,D⟩;rw[←Di] at i5 i6 i7 Am hA0 c32;have Hpl:=bK Di;have HI:=bK (bO i0 (bO i1 (bO i2 (bO i3 (bO i5 (bO i6 (bO i7 hA0)))))));clear i0 i1 i2 i3 i5 i6 i7 hA0 Di hpre;rcases hi with rfl|rfl|rfl
  all_goals
   gi_wp2_with fail;refine Ord.regionIn_ (fun _=>True) aF [32,33,36] (by kernel_rfl) (by kernel_rfl) (by kernel_rfl) (fun⟨_,_,h⟩=>h) cM ?_;obtain⟨i0,i1,i2,i3,i5,i6,i7,hA0⟩:=HI.out;clear HI;generalize W.drew=W2 at*;refine eP lU D c32 D (by kernel_rfl) (by kernel_rfl) ?_;refine PT ?_;refine eP underlying367 D c33 D (by kernel_rfl) (by kernel_rfl) ?_;refine PT ?_;iterate 2 refine Ord.K ?_
   refine eP underlying21 D c36 D (by kernel_rfl) (by kernel_rfl) ?_;refine PT ?_;clear c32 c33 c36;refine Ord.X ?_;go_wp2_with fail;go_fit(OU g4 g5 W2 i1 i2);rintro e W3 ⟨rfl,rfl⟩;go_wp2_with fail;refine cC cM (fun _=>bP _ _) ?_;refine PT ?_;refine Ord.X ?_;go_wp2_with fail;go_fit(IM W2);rintro e W3 ⟨rfl,hb3⟩;go_wp2_with fail;refine cC cM (fun _=>hb3) ?_;refine PT ?_;have hA3:Aw (fun _=>False) W2 W3:=eS hb3;refine Ord.X ?_;go_wp2;have hbn:aV W3.heap.size W3 (W3.alloc (aI #[O aR 512] 46)):=(bP _ _).alloc (bM _) _;have hrd:Rd (W3.alloc (aI #[O aR 512] 46)) (W3.heap.size+1) 1 (aE ⟨W3.heap.size,0,J⟩) 1 1 [O aR 512]:=Ee W3 46 [O aR 512] (by simp[bB]);have hA4:Aw (fun _=>False) W2 (W3.alloc (aI #[O aR 512] 46)):=hA3.alloc _;refine cC cM (fun _=>hbn) ?_;refine PT ?_;have j0:=eI i0 ((show aV W2.heap.size W2 (W3.alloc (aI #[O aR 512] 46)) from eI hb3 hbn));have j1:=hA4.keep i1 (fun h=>h);have j2:=hA4.keep i2 (fun h=>h);have j3:=hA4.keep i3 (fun h=>h);have j5:=hA4.keep i5 (fun h=>h);have j6:=iZ i6 hA4 (fun k hk hu=>hu);have j4:=bU zB (bU hA0.size hA4.size);have hA5:=hA0.trans (hA4.mono fun k hk=>hk.elim);clear i0 i1 i2 i3 i5 i6 hb3 hA3 hbn hA4 hA0;obtain⟨gN,Zd⟩: ∃g,g=W3.heap.size:=⟨_,D⟩;have Ts:(W3.alloc (aI #[O aR 512] 46)).heap.size=gN+1:=by rw[cL,Zd]
   rw[←Zd] at hrd ⊢;generalize(W3.alloc (aI #[O aR 512] 46))=W4 at*;have HgN:=bK Ts;clear Zd Ts;refine Ord.X ?_;go_wp2_with(at_builtin;refine rP ?_);obtain⟨ii,hi⟩:=eW kv;refine eL (iY (base:=g5+2) (n:=pl+1) (xs:=ir pl) lU hi D (by omega) j6 D hrd D (fun u hu=>by rw[List.mem_singleton.1 hu];rfl) (k:=pl+1+1) D D (by unfold bB;omega) (by omega) (by omega) ?_);intro A7 c7 W7 sC hgr zE;have hA7:=mA hgr;have Lr: ∀k,(Value.slice Ap (pl+1) cp).ownBlock=aE k→k=g5+2∨g5+7≤k:=fun k hk=>i7 k hk;have v0:=gJ j0 hA7 (fun k hk=>by have:=Lr k hk;omega) (by omega);have v1:=hA7.keep j1 (fun hu=>by have:=Lr _ hu;omega);have v2:=hA7.keep j2 (fun hu=>by have:=Lr _ hu;omega);have v3:=hA7.keep j3 (fun hu=>by have:=Lr _ hu;omega);have v5:=hA7.keep j5 (fun hu=>by have:=Lr _ hu;omega);have v4:=bU j4 hA7.size
   have v7: ∀k,(Value.slice A7 (pl+1+1) c7).ownBlock=aE k→k=g5+2∨g5+7≤k:=fun k hk=>by
    rcases zE with h|h
    ·rw[h] at hk;exact Lr k hk
    ·rw[h] at hk;injection hk with hk;omega
   have hA8:=hA5.trans (hA7.mono fun k hk=> .inl hk);clear j0 j1 j2 j3 j4 j5 j6 hrd hgr zE hA5 hA7 hi;go_wp2_with fail;refine cC cM (fun h=>by cases h) ?_;refine PT ?_;refine Ord.X ?_;have s1:W7.cell? ⟨g5+1+1+1,0,J⟩=aE (aL Ap (pl+1) cp):=bL v5 D;have s2:W7.frozen? ⟨g5+1+1+1,0,J⟩=aD:=bZ (i:=0) v5;have hA9:Aw (fun k=>k=g5+3) W7 (W7.setCell ⟨g5+1+1+1,0,J⟩ (aL A7 (pl+1+1) c7)):=(cY _ _).set _ D;have u5:(W7.setCell ⟨g5+1+1+1,0,J⟩ (aL A7 (pl+1+1) c7)).heap[g5+3]?=aE (aI #[aL A7 (pl+1+1) c7] 368):=cN (i:=0) v5 (aL A7 (pl+1+1) c7)
   have hfin: ∀x:Nat × Nat,IK w g4 g5 (pre++ [x]) (W7.setCell ⟨g5+1+1+1,0,J⟩ (aL A7 (pl+1+1) c7)):=fun x=>by
    have hl:(pre++ [x]).length=pl+1:=by rw[cZ,List.length_singleton,←Hpl.out]
    unfold IK;rw[hl];exact⟨gJ v0 hA9 (fun k hk=>by omega) (by omega),hA9.keep v1 (by omega),hA9.keep v2 (by omega),hA9.keep v3 (by omega),by have:=hA9.size;omega,A7,c7,u5,by rw[show ir (pl+1)=ir pl++ [O aR 512] from by unfold ir;rw[List.replicate_succ'];rfl];exact iZ sC hA9 (fun k hk hu=>by have:=v7 k hk;omega),v7⟩
   have HF:=bK hfin
   have HK:=bK ((hA8.trans (hA9.mono fun k hk=> .inr hk)).keeps (K:=fun k=>k=g5+4∨k=w7.heap.size∨k=w7.heap.size+1) fun k hk hu=>by
    rw[iJ] at hk;rcases hu with hu|hu
    ·have:=Lr k hu;omega
    ·omega)
   clear v0 v1 v2 v3 v4 v5 v7 u5 sC hA8 hA9 hfin Lr i7;go_wp2;refine cC cM (fun h=>by cases h) ?_;refine PT ?_;refine cV ?_;exact⟨HK.out,HF.out _⟩
 case done=>
  rintro W ⟨i0,i1,i2,i3,i4,Ap,cp,i5,i6,i7⟩ hd;have XN:=bT hd;have HD:=bK hd;have HI:=bK (bO i0 (bO i5 i6));clear i0 i1 i2 i3 i5 i6 i7 hd;gi_wp2_with fail;refine OrdY.region_ (fun w'=>aV W.heap.size W w') aD [] (by kernel_rfl) (by kernel_rfl) ((bP _ _).drew) ?_;obtain⟨i0,i5,i6⟩:=HI.out;have q7:W.cell? ⟨g5+1+1+1,0,J⟩=aE (aL Ap 4 cp):=bL i5 D;have l7:g5+1+1+1<W.heap.size:=bT i5;have hb0:aV W.heap.size W W.drew:=(bP _ _).drew;have hrd:Rd W W.heap.size 1 Ap 4 cp kW:=oA i6;have h0:=i0;clear i5 i6 HI i0;generalize W.drew=Wd at*;refine OrdY.X ?_;go_wp2_with fail;go_fit(QK Wd);rintro e W1 ⟨rfl,rfl⟩;have hb1:=eI hb0 ((bP Wd.heap.size Wd).alloc (bM _) (aI #[O Y 2,O Y 10,O Y 10,O Y 10] 3));go_wp2_with fail;refine OrdY.Seg.go hb1 (fun h=>by cases h) ?_;refine PT ?_;refine wP lU D (fun w' hS=>((show aV _ W w' from hS).cell (p:=⟨g5+1+1+1,0,J⟩) l7).trans q7) hb1 D (by kernel_rfl) ?_;refine PT ?_;refine OrdY.X ?_;have HJ:=bK (ko Wd.heap.size W.heap.size Ap cp _ (bS Wd (aI #[O Y 2,O Y 10,O Y 10,O Y 10] 3)) (hrd.up hb1) hb1.size);go_wp2_with fail;go_fit HJ.out;rintro e W3 ⟨rfl,hbx⟩;have hb3:=eI hb1 hbx;go_wp2_with fail;refine OrdY.Seg.go hb3 (fun h=>by cases h) ?_;refine PT ?_;clear q7 HJ hbx hb1 hb0 hrd;iterate 4 refine OrdY.K ?_
  refine OrdY.e_nil ?_;gi_wp2;have hd:=bV HD.out hb3 XN;rw[iJ] at hd;have hbW:=eI h0 hb3;refine⟨by simp,.inl ⟨_,_,D,lR hd,?_⟩⟩;refine⟨aN #[O aR 537395712,aG aF],by simp[results,go_sem],D,?_⟩;exact gJ hbW ((cY (fun k=>k=g5+5) W3).put _ D) (fun k hk=>by omega) hbW.size
end
section
open Go.RowKit NumLaw
attribute [local go_sem] Addr.add_mid
abbrev nF:=@underlying181
abbrev tB:=@underlying185
structure DuR(W:aS)(gq gm gr ga gb c:Nat)(ia xa ea ib xb eb:Int):Prop where
 q:W.heap[gq]?=aE (aI #[aL (aE ⟨gr,0,J⟩) 2 c,.map (aE gm)] 171)
 r: ∃cs,W.heap[gr]?=aE (aI cs 181)∧cs[0]?=aE (aK (aE ⟨ga,0,J⟩))∧cs[1]?=aE (aK (aE ⟨gb,0,J⟩))
 a:W.heap[ga]?=aE (aI #[O Y ia,O Y xa,O Y ea,O Y 0] 183)
 b:W.heap[gb]?=aE (aI #[O Y ib,O Y xb,O Y eb,O Y 1] 183)
 d:gq≠gr∧gq≠ga∧gq≠gb∧gr≠ga∧gr≠gb∧ga≠gb
 c2:2≤c
theorem DuR.keep{W W':aS}{gq gm gr ga gb c:Nat}{ia xa ea ib xb eb:Int}{U:Nat→Prop}(h:DuR W gq gm gr ga gb c ia xa ea ib xb eb)(ha:Aw U W W')(u1: ¬U gq)(u2: ¬U gr)(u3: ¬U ga)(u4: ¬U gb):DuR W' gq gm gr ga gb c ia xa ea ib xb eb:=by
 obtain⟨cs,h1,h2⟩:=h.r;exact⟨ha.keep h.q u1,⟨cs,ha.keep h1 u2,h2⟩,ha.keep h.a u3,ha.keep h.b u4,h.d,h.c2⟩
def Tu(gr ga gb k:Nat):Prop:=k=gr∨k=ga∨k=gb
theorem RY(l:Array aY)(T:aY)(p:aW)(a b:ByteArray):Builtin.ssaWrapNilChk_ l T #[aK (aE p),aH a,aH b]=pure (aK (aE p)):=rfl
theorem Wq{P:aZ}{E:aY}{ds:TypeDesc}(ht:P.underlying E=aE ds)(Ga:(match ds with| .struct _=>aD| .array _ _=>aD|_=>aF)=aF){w:aS}{p:aW}{v:aT}(h:w.cell? p=aE v):(loadVar E p).run P w= .ok v w:=by
 have ha:(isAgg E).run P w= .ok aD w:=by unfold isAgg;rw[Ord.run_bind_of' (dE ht w)];cases ds<;>simp at Ga<;>rfl
 unfold loadVar;simp only[eB,eD,ha];simp[load,Sem.run,h]
theorem Cv{P:aZ}{T E:aY}{nm:String}{f:Nat}{w:aS}{p:aW}{v:aT}(h:((P.info? T).bind fun i=>(i.methods.find? (·.name==nm)).map fun m=>(m.func,m.path))=aE (aE (f,aD),#[]))(hu:P.underlying T=aE (TypeDesc.pointer E))(hv:(loadVar E p).run P w= .ok v w)(k:Nat):
  (bG (k+1) T (aK (aE p)) nm).run P w= .ok (f,v) w:=by
 have hr: ∀s,(receiverAt T (.val (aK (aE p))) aD (aE s)).run P w= .ok v w:=fun s=>by unfold receiverAt;simp only[eB,dE hu,eD,Place.get,jU,strVal,RY,asAddr];exact hv
 cases hi:P.info? T with
 |none=>rw[hi] at h;cases h
 |some i=>
  rw[hi] at h
  cases hm:i.methods.find? (·.name==nm) with
  |none=>simp[hm] at h
  |some m=>
   simp only[Option.bind_some,hm,pR,Option.some.injEq,Prod.mk.injEq] at h;obtain⟨hf,hp⟩:=h;unfold bG;simp[go_sem,eB,bF,run_program,eD,hi,hm,hf,hp,follow,hr]
theorem xQ{w:aS}{gq c n:Nat}{A:Option aW}{m:aT}(h:w.heap[gq]?=aE (aI #[aL A n c,m] 171)):
  (∀k,(bG (k+1) 185 (aK (aE ⟨gq,0,J⟩)) "Len").run bH w= .ok (158,aL A n c) w)∧
  (∀k,(bG (k+1) 185 (aK (aE ⟨gq,0,J⟩)) "Less").run bH w= .ok (414,aL A n c) w)∧
  (∀k,(bG (k+1) 185 (aK (aE ⟨gq,0,J⟩)) "Swap").run bH w= .ok (415,aL A n c) w):=by
 have c0:w.cell? ⟨gq,0,J⟩=aE (aL A n c):=bL (i:=0) h D;have hl:=Wq underlying169 D c0;exact⟨Cv (by kernel_rfl) tB hl,Cv (by kernel_rfl) tB hl,Cv (by kernel_rfl) tB hl⟩
theorem WB(gr ga gb c:Nat)(ia xa ea ib xb eb:Int)(cs:Array aT)(r:Bool)(w:aS)(hr:w.heap[gr]?=aE (aI cs 181))(h0:cs[0]?=aE (aK (aE ⟨ga,0,J⟩)))(h1:cs[1]?=aE (aK (aE ⟨gb,0,J⟩)))(hc:2≤c)
  (ha:w.heap[ga]?=aE (aI #[O Y ia,O Y xa,O Y ea,O Y 0] 183)) (hb:w.heap[gb]?=aE (aI #[O Y ib,O Y xb,O Y eb,O Y 1] 183)) (hR:r=decide (xb<xa∨(xb=xa∧ib<ia))):
  aU bH 414 #[aL (aE ⟨gr,0,J⟩) 2 c,O Y 1,O Y 0] w fun e w'=>e=aJ (aG r)∧aV w.heap.size w w':=by
 have c0:w.cell? ⟨gr,0,J⟩=aE (aK (aE ⟨ga,0,J⟩)):=bL (i:=0) hr h0;have c1:w.cell? ⟨gr,1,J⟩=aE (aK (aE ⟨gb,0,J⟩)):=bL (i:=1) hr h1;have gl:=bT hr;have HB:=bK (fun w2 (hx:aV w.heap.size w w2)=>SB gb ga ib xb eb 1 ia xa ea 0 w2 (bV hb hx (bT hb)) (bV ha hx (bT ha)));rw[←hR] at HB;clear hr h0 h1 ha hb hR;go_enter func414,ntmps414;go_wp2_with fail;refine cQ (fun w'=>aV w.heap.size w w') aD [] (by kernel_rfl) (by kernel_rfl) ((bP _ _).drew) ?_;have hb:aV w.heap.size w w.drew:=(bP _ _).drew;generalize w.drew=w2 at*;iterate 3 refine Ord.K ?_
 refine cR nF D (fun w' hS=>((show aV _ w w' from hS).cell (p:=⟨gr,1,J⟩) gl).trans c1) hb D (by kernel_rfl) ?_;refine PT ?_;iterate 3 refine Ord.K ?_
 refine cR nF D (fun w' hS=>((show aV _ w w' from hS).cell (p:=⟨gr,0,J⟩) gl).trans c0) hb D (by kernel_rfl) ?_;refine PT ?_;refine Ord.X ?_;go_wp2_with fail;go_fit(HB.out w2 hb);rintro e w3 ⟨rfl,hbx⟩;have hb3:=eI hb hbx;go_wp2_with fail;refine cC hb3 (fun h=>by cases h) ?_;refine PT ?_;refine Ord.K ?_;refine cV ?_;clear c0 c1 HB hbx hb;go_wp2;go_ret;exact⟨D,hb3⟩
def WL(w:aS)(gr ga gb:Nat)(ia xa ea ib xb eb:Int)(e:aX)(w':aS):Prop:=
 e=aJ (aN #[])∧(∃cs,w'.heap[gr]?=aE (aI cs 181)∧cs[0]?=aE (aK (aE ⟨gb,0,J⟩))∧cs[1]?=aE (aK (aE ⟨ga,0,J⟩)))∧w'.heap[ga]?=aE (aI #[O Y ia,O Y xa,O Y ea,O Y 1] 183)∧w'.heap[gb]?=aE (aI #[O Y ib,O Y xb,O Y eb,O Y 0] 183)∧Aw (Tu gr ga gb) w w'
theorem VR(gr ga gb c:Nat)(ia xa ea ib xb eb:Int)(cs:Array aT)(w:aS)(hr:w.heap[gr]?=aE (aI cs 181))(h0:cs[0]?=aE (aK (aE ⟨ga,0,J⟩)))(h1:cs[1]?=aE (aK (aE ⟨gb,0,J⟩)))(hc:2≤c)
  (ha:w.heap[ga]?=aE (aI #[O Y ia,O Y xa,O Y ea,O Y 0] 183)) (hb:w.heap[gb]?=aE (aI #[O Y ib,O Y xb,O Y eb,O Y 1] 183)) (n1:gr≠ga) (n2:gr≠gb) (n3:ga≠gb):
  aU bH 415 #[aL (aE ⟨gr,0,J⟩) 2 c,O Y 0,O Y 1] w (WL w gr ga gb ia xa ea ib xb eb):=by
 have iJ:2≤cs.size:=by obtain⟨h,_⟩:=Array.getElem?_eq_some_iff.1 h1;omega
 have c0:w.drew.cell? ⟨gr,0,J⟩=aE (aK (aE ⟨ga,0,J⟩)):=bL (w:=w.drew) (i:=0) hr h0;have c1:w.drew.cell? ⟨gr,1,J⟩=aE (aK (aE ⟨gb,0,J⟩)):=bL (w:=w.drew) (i:=1) hr h1;have aw0:Aw (Tu gr ga gb) w w.drew:=(cY _ _).drew;replace hr:w.drew.heap[gr]?=_:=hr;replace ha:w.drew.heap[ga]?=_:=ha;replace hb:w.drew.heap[gb]?=_:=hb;go_enter func415,ntmps415;go_wp2_with fail;refine cQ (fun _=>True) aF [13,17] (by kernel_rfl) (by kernel_rfl) cM ?_;generalize w.drew=w2 at*;have s0:=bZ (i:=0) hr;have hr2:=cN (i:=0) hr (aK (aE ⟨gb,0,J⟩));have s1:=bZ (i:=1) hr2;have d1:(w2.setCell ⟨gr,0,J⟩ (aK (aE ⟨gb,0,J⟩))).cell? ⟨gr,1,J⟩=aE (aK (aE ⟨gb,0,J⟩)):=bL (i:=1) hr2 (by rw[Array.getElem?_setIfInBounds_ne (by decide)];exact h1);have hr3:=cN (i:=1) hr2 (aK (aE ⟨ga,0,J⟩));have aw3:Aw (Tu gr ga gb) w ((w2.setCell ⟨gr,0,J⟩ (aK (aE ⟨gb,0,J⟩))).setCell ⟨gr,1,J⟩ (aK (aE ⟨ga,0,J⟩))):=(aw0.set (p:=⟨gr,0,J⟩) _ (.inl D)).set (p:=⟨gr,1,J⟩) _ (.inl D);have aw23:Aw (fun k=>k=gr) w2 ((w2.setCell ⟨gr,0,J⟩ (aK (aE ⟨gb,0,J⟩))).setCell ⟨gr,1,J⟩ (aK (aE ⟨ga,0,J⟩))):=((cY (fun k=>k=gr) w2).set (p:=⟨gr,0,J⟩) _ D).set (p:=⟨gr,1,J⟩) _ D;have e0:((cs.setIfInBounds 0 (aK (aE ⟨gb,0,J⟩))).setIfInBounds 1 (aK (aE ⟨ga,0,J⟩)))[0]?=aE (aK (aE ⟨gb,0,J⟩)):=by rw[Array.getElem?_setIfInBounds_ne (by decide),Array.getElem?_setIfInBounds_self_of_lt (by omega)]
 have e1:((cs.setIfInBounds 0 (aK (aE ⟨gb,0,J⟩))).setIfInBounds 1 (aK (aE ⟨ga,0,J⟩)))[1]?=aE (aK (aE ⟨ga,0,J⟩)):=by rw[Array.getElem?_setIfInBounds_self_of_lt (by simp;omega)]
 generalize((cs.setIfInBounds 0 (aK (aE ⟨gb,0,J⟩))).setIfInBounds 1 (aK (aE ⟨ga,0,J⟩)))=cs3 at*;have HY:=bK (bO hr3 (bO (aw23.keep ha (fun h=>n1 h.symm)) (bO (aw23.keep hb (fun h=>n2 h.symm)) aw3)));clear hr hr2 hr3 aw3 aw23 ha hb aw0;iterate 7 refine Ord.K ?_
 refine eP nF D c1 D (by kernel_rfl) (by kernel_rfl) ?_;refine PT ?_;iterate 3 refine Ord.K ?_
 refine eP nF D c0 D (by kernel_rfl) (by kernel_rfl) ?_;refine PT ?_;refine Ord.K ?_;refine Ord.X ?_;go_wp2;refine cC cM (fun h=>by cases h) ?_;refine PT ?_;refine Ord.K ?_;refine Ord.X ?_;go_wp2;refine cC cM (fun h=>by cases h) ?_;refine PT ?_;refine cV ?_;clear c0 c1 s0 s1 d1;obtain⟨hr,ha,hb,aw3⟩:=HY.out;generalize((w2.setCell ⟨gr,0,J⟩ (aK (aE ⟨gb,0,J⟩))).setCell ⟨gr,1,J⟩ (aK (aE ⟨ga,0,J⟩)))=w3 at*;clear HY;have c0:w3.drew.cell? ⟨gr,0,J⟩=aE (aK (aE ⟨gb,0,J⟩)):=bL (w:=w3.drew) (i:=0) hr e0;have c1:w3.drew.cell? ⟨gr,1,J⟩=aE (aK (aE ⟨ga,0,J⟩)):=bL (w:=w3.drew) (i:=1) hr e1;replace aw3:=aw3.drew;replace hr:w3.drew.heap[gr]?=_:=hr;replace ha:w3.drew.heap[ga]?=_:=ha;replace hb:w3.drew.heap[gb]?=_:=hb;go_wp2_with fail;refine cQ (fun _=>True) aF [23,27] (by kernel_rfl) (by kernel_rfl) cM ?_;generalize w3.drew=w4 at*;have p0:=bL (i:=3) (v:=O Y 1) hb D;have p1:=bZ (i:=3) hb;have hb2:=cN (i:=3) hb (O Y 0);have awb:Aw (fun k=>k=gb) w4 (w4.setCell ⟨gb,3,J⟩ (O Y 0)):=(cY _ _).set (p:=⟨gb,3,J⟩) _ D;have ha2:=awb.keep ha n3;have q0:=bL (i:=3) (v:=O Y 0) ha2 D;have q1:=bZ (i:=3) ha2;have ha3:=cN (i:=3) ha2 (O Y 1);have awa:Aw (fun k=>k=ga) (w4.setCell ⟨gb,3,J⟩ (O Y 0)) ((w4.setCell ⟨gb,3,J⟩ (O Y 0)).setCell ⟨ga,3,J⟩ (O Y 1)):=(cY _ _).set (p:=⟨ga,3,J⟩) _ D;have hb3:=awa.keep hb2 (fun h=>n3 h.symm);have hr3:=awa.keep (awb.keep hr n2) n1;have aw5:Aw (Tu gr ga gb) w ((w4.setCell ⟨gb,3,J⟩ (O Y 0)).setCell ⟨ga,3,J⟩ (O Y 1)):=(aw3.set (p:=⟨gb,3,J⟩) _ (.inr (.inr D))).set (p:=⟨ga,3,J⟩) _ (.inr (.inl D));have HY:=bK (bO hr3 (bO ha3 (bO hb3 aw5)));clear hr hr3 ha ha2 ha3 hb hb2 hb3 awa awb aw3 aw5;iterate 3 refine Ord.K ?_
 refine eP nF D c0 D (by kernel_rfl) (by kernel_rfl) ?_;refine PT ?_;iterate 3 refine Ord.K ?_
 refine eP nF D c1 D (by kernel_rfl) (by kernel_rfl) ?_;refine PT ?_;iterate 4 refine Ord.K ?_
 refine Ord.X ?_;go_wp2;refine cC cM (fun h=>by cases h) ?_;refine PT ?_;iterate 2 refine Ord.K ?_
 refine Ord.X ?_;go_wp2;refine cC cM (fun h=>by cases h) ?_;refine PT ?_;refine cV ?_;clear c0 c1 p0 p1 q0 q1;go_wp2;refine dC (cT D _ _ _) D ?_;exact⟨D,⟨cs3,HY.out.1,e0,e1⟩,HY.out.2.1,HY.out.2.2.1,HY.out.2.2.2⟩
theorem DuR.swap{w w':aS}{gq gm gr ga gb c:Nat}{ia xa ea ib xb eb:Int}{e:aX}(h:DuR w gq gm gr ga gb c ia xa ea ib xb eb)(hs:WL w gr ga gb ia xa ea ib xb eb e w'):DuR w' gq gm gr gb ga c ib xb eb ia xa ea:=
 ⟨hs.2.2.2.2.keep h.q (fun hk=>by obtain⟨d1,d2,d3,_⟩:=h.d;rcases hk with rfl|rfl|rfl<;>contradiction),hs.2.1,hs.2.2.2.1,hs.2.2.1,⟨h.d.1,h.d.2.2.1,h.d.2.1,h.d.2.2.2.2.1,h.d.2.2.2.1,fun hk=>h.d.2.2.2.2.2 hk.symm⟩,h.c2⟩
def lf(r:Bool)(w:aS)(gq gm gr ga gb c:Nat)(ia xa ea ib xb eb:Int)(e:aX)(w':aS):Prop:=
 e=aJ (aG r)∧(r=aD→DuR w' gq gm gr ga gb c ia xa ea ib xb eb)∧(r=aF→DuR w' gq gm gr gb ga c ib xb eb ia xa ea)∧Aw (Tu gr ga gb) w w'
theorem mo(gq gm gr ga gb c:Nat)(ia xa ea ib xb eb:Int)(r:Bool)(w:aS)(h:DuR w gq gm gr ga gb c ia xa ea ib xb eb)(hR:r=decide (xb<xa∨(xb=xa∧ib<ia))):
  aU bH 123 #[(.iface 185 (aK (aE ⟨gq,0,J⟩))),O Y 0,O Y 2] w (lf r w gq gm gr ga gb c ia xa ea ib xb eb):=by
 obtain⟨cs,hr,h0,h1⟩:=h.r;have HL:=bK (WB gr ga gb c ia xa ea ib xb eb cs r w hr h0 h1 h.c2 h.a h.b hR);have hm:=(xQ h.q).2.1;have H:=bK h;clear hr h0 h1 h hR
 cases r with
 |false=>
  go_enter func123,ntmps123;go_wp2_with fail;go_loopw [7] (fun i wr=>i=O Y 0∧w=wr) (fun _ _=>1);case atStart=>exact⟨D,D⟩
  case round=>obtain⟨rfl,rfl⟩:=hrel;go_wp2_with fail;go_fit HL.out;rintro e w2 ⟨rfl,hb⟩;clear hm;go_wp2;go_ret;exact⟨D,fun _=>H.out.keep (eS (U:=fun _=>False) hb) (fun h=>h) (fun h=>h) (fun h=>h) (fun h=>h),(fun h=>by cases h),(eS (U:=fun _=>False) hb).mono (fun _ h=>h.elim)⟩
 |true=>
  go_enter func123,ntmps123;go_wp2_with fail;go_loopw [7] (fun i wr=>(i=O Y 0∧w=wr)∨(i=O Y 1∧DuR wr gq gm gr gb ga c ib xb eb ia xa ea∧Aw (Tu gr ga gb) w wr)) (fun i _=>2-(bE i).toNat);case atStart=>exact .inl ⟨D,D⟩
  case round=>
   obtain⟨rfl,rfl⟩|⟨rfl,hd,haw⟩:=hrel
   ·go_wp2_with fail;go_fit HL.out;rintro e w2 ⟨rfl,hb⟩;clear hm;have h2:=H.out.keep (eS (U:=fun _=>False) hb) (fun h=>h) (fun h=>h) (fun h=>h) (fun h=>h);obtain⟨cs,hr,h0,h1⟩:=h2.r;have HS:=bK (VR gr ga gb c ia xa ea ib xb eb cs w2 hr h0 h1 h2.c2 h2.a h2.b h2.d.2.2.2.1 h2.d.2.2.2.2.1 h2.d.2.2.2.2.2);have hm:=(xQ h2.q).2.2;have H2:=bK (bO h2 hb);clear hb h2 hr h0 h1;go_wp2_with fail;go_fit HS.out;rintro e w3 hs;have HS3:=bK hs;obtain⟨rfl,hs⟩:=hs;clear hm hs HS;go_wp2;go_roundw;case rel=>exact .inr ⟨D,H2.out.1.swap HS3.out,(eS H2.out.2).trans HS3.out.2.2.2.2⟩
    case measure=>simp[bE]
   ·have HD:=bK (bO hd haw);clear hd haw hm;go_wp2;go_ret;exact⟨D,(fun h=>by cases h),fun _=>HD.out.1,HD.out.2⟩
theorem kd(v:aT)(w:aS):aU bH 93 #[v,O Y 0] w fun e w'=>e=aJ (aN #[])∧w=w':=by
 go_enter func93,ntmps93;go_wp2_with fail;go_loopw [1] (fun j wr=>j=O Y 0∧w=wr) (fun _ _=>1);case atStart=>exact⟨D,D⟩
 case round=>obtain⟨rfl,rfl⟩:=hrel;go_wp2;refine dC (cT D _ _ _) D ?_;exact⟨D,D⟩
theorem zd(gq gm gr ga gb c:Nat)(ia xa ea ib xb eb:Int)(w:aS)(h:DuR w gq gm gr ga gb c ia xa ea ib xb eb)(hx:xb<xa):
  aU bH 93 #[(.iface 185 (aK (aE ⟨gq,0,J⟩))),O Y 1] w fun e w'=>e=aJ (aN #[])∧DuR w' gq gm gr gb ga c ib xb eb ia xa ea∧Aw (Tu gr ga gb) w w':=by
 obtain⟨cs,hr,h0,h1⟩:=h.r;have HL:=bK (WB gr ga gb c ia xa ea ib xb eb cs aF w hr h0 h1 h.c2 h.a h.b (by simp[hx]));have hm:=(xQ h.q).2.1;have H:=bK h;clear hr h0 h1 h hx;go_enter func93,ntmps93;go_wp2_with fail;go_loopw [1] (fun i wr=>(i=O Y 1∧w=wr)∨(i=O Y 0∧DuR wr gq gm gr gb ga c ib xb eb ia xa ea∧Aw (Tu gr ga gb) w wr)) (fun i _=>(bE i).toNat);case atStart=>exact .inl ⟨D,D⟩
 case round=>
  obtain⟨rfl,rfl⟩|⟨rfl,hd,haw⟩:=hrel
  ·go_wp2_with fail;go_fit HL.out;rintro e w2 ⟨rfl,hb⟩;clear hm;have h2:=H.out.keep (eS (U:=fun _=>False) hb) (fun h=>h) (fun h=>h) (fun h=>h) (fun h=>h);obtain⟨cs,hr,h0,h1⟩:=h2.r;have HS:=bK (VR gr ga gb c ia xa ea ib xb eb cs w2 hr h0 h1 h2.c2 h2.a h2.b h2.d.2.2.2.1 h2.d.2.2.2.2.1 h2.d.2.2.2.2.2);have hm:=(xQ h2.q).2.2;have H2:=bK (bO h2 hb);clear hb h2 hr h0 h1;go_wp2_with fail;go_fit HS.out;rintro e w3 hs;have HS3:=bK hs;obtain⟨rfl,hs⟩:=hs;clear hm hs HS;go_wp2;go_roundw;case rel=>exact .inr ⟨D,H2.out.1.swap HS3.out,(eS H2.out.2).trans HS3.out.2.2.2.2⟩
   case measure=>simp[bE]
  ·have HD:=bK (bO hd haw);clear hd haw hm;go_wp2;refine dC (cT D _ _ _) D ?_;exact⟨D,HD.out⟩
theorem RI(A:Option aW)(n c:Nat)(w:aS):aU bH 158 #[aL A n c] w fun e w'=>e=aJ (O Y (n:Int))∧w=w':=by
 go_enter func158,ntmps158;go_wp2;go_ret;exact⟨D,D⟩
def kl(r:Bool)(w:aS)(gq gm gr ga gb c:Nat)(ia xa ea ib xb eb:Int)(e:aX)(w':aS):Prop:=
 e=aJ (aN #[])∧(r=aD→DuR w' gq gm gr ga gb c ia xa ea ib xb eb)∧(r=aF→DuR w' gq gm gr gb ga c ib xb eb ia xa ea)∧Aw (Tu gr ga gb) w w'
theorem zq(gq gm gr ga gb c:Nat)(ia xa ea ib xb eb:Int)(r:Bool)(w:aS)(h:DuR w gq gm gr ga gb c ia xa ea ib xb eb)(hR:r=decide (xb<xa∨(xb=xa∧ib<ia))):
  aU bH 130 #[(.iface 185 (aK (aE ⟨gq,0,J⟩))),O Y 0] w (kl r w gq gm gr ga gb c ia xa ea ib xb eb):=by
 have HD:=bK (mo gq gm gr ga gb c ia xa ea ib xb eb r w h hR);have hm:=(xQ h.q).1;clear h hR;go_enter func130,ntmps130;go_wp2_with fail;go_fit(RI _ 2 c w);rintro e w2 ⟨rfl,rfl⟩;go_wp2_with fail;go_fit HD.out;rintro e w2 hd;have H2:=bK hd;obtain⟨rfl,_⟩:=hd;clear HD hm
 cases r with
 |false=>
  go_wp2_with fail;go_fit(kd _ w2);rintro e w3 ⟨rfl,rfl⟩;go_wp2;refine dC (cT D _ _ _) D ?_;exact⟨D,H2.out.2⟩
 |true=>
  go_wp2;refine dC (cT D _ _ _) D ?_;exact⟨D,H2.out.2⟩
theorem ny:(Tryz.prog.info? 181).map (fun i=>(i.zero,i.size,i.bytes))=aE (aE (aK J),1,8):=by kernel_rfl
theorem KW{P:aZ}{T E:aY}{nm:String}{f:Nat}{v:aT}(h:((P.info? T).bind fun i=>(i.methods.find? (·.name==nm)).map fun m=>(m.func,m.path))=aE (aE (f,aF),#[]))(hu:P.underlying T=aE (TypeDesc.pointer E))(k:Nat)(w:aS):
  (bG (k+1) T v nm).run P w= .ok (f,v) w:=by
 have hr: ∀s,(receiverAt T (.val v) aF s).run P w= .ok v w:=fun s=>by unfold receiverAt;simp only[eB,dE hu,eD,Place.get,jU]
 cases hi:P.info? T with
 |none=>rw[hi] at h;cases h
 |some i=>
  rw[hi] at h
  cases hm:i.methods.find? (·.name==nm) with
  |none=>simp[hm] at h
  |some m=>
   simp only[Option.bind_some,hm,pR,Option.some.injEq,Prod.mk.injEq] at h;obtain⟨hf,hp⟩:=h;unfold bG;simp[go_sem,eB,bF,run_program,eD,hi,hm,hf,hp,follow,hr]
theorem Ym{P:aZ}{k:aY}(hk:P.underlying k=aE (.int Y))(b:Bool)(m:Nat)(n:Int)(w:aS):(Instr.checkKey b (m+1) k (O Y n)).run P w= .ok () w:=by
 unfold Instr.checkKey;simp[eB,dE hk,eD]
theorem Ze{P:aZ}{t k e:aY}{g ck:Nat}{es:Array MapEntry}{n:Int}{w:aS}(ht:P.underlying t=aE (.map k e))(hk:P.underlying k=aE (.int Y))(hz:(zeroValue e).run P w= .ok (aK J) w)(hb:w.heap[g]?=aE (.map es ck))(hf:Instr.findNow (.int Y) (O Y n) es.toList 0=aE J):
  (Instr.lookup t (.map (aE g)) (O Y n) aF).run P w= .ok (aN #[aK J,aG aD]) w:=by
 have hg:(getObj g).run P w= .ok (.map es ck) w:=by simp[getObj,Sem.run,hb]
 have hc:(Instr.checkKey es.isEmpty 10000 k (O Y n)).run P w= .ok () w:=Ym hk _ 9999 n w;unfold Instr.lookup;generalize 10000=K at*;simp[eB,dE ht,dE hk,eD,hg,hc,Instr.findKey,hf,hz]
theorem Mm{P:aZ}{t k e:aY}{g ck:Nat}{es:Array MapEntry}{n:Int}{v:aT}{w:aS}(ht:P.underlying t=aE (.map k e))(hk:P.underlying k=aE (.int Y))(hb:w.heap[g]?=aE (.map es ck))(hf:Instr.findNow (.int Y) (O Y n) es.toList 0=aE J):
  (Instr.mapUpdate t (.map (aE g)) (O Y n) v).run P w= .ok () (w.putObj g (.map (es.push { key:=O Y n,val:=v,born:=ck }) (ck+1))):=by
 have hg:(getObj g).run P w= .ok (.map es ck) w:=by simp[getObj,Sem.run,hb]
 have hc:(Instr.checkKey aD 10000 k (O Y n)).run P w= .ok () w:=Ym hk _ 9999 n w;unfold Instr.mapUpdate;generalize 10000=K at*;simp[eB,dE ht,dE hk,eD,hg,hc,Instr.findKey,hf,setObj];simp[Sem.run,hb,World.putObj]
def lk(gq gt gm n:Nat)(A:Option aW)(c base:Nat)(xs:List aT)(i x ev:Int)(w:aS)(e:aX)(w':aS):Prop:=
 e=aJ (aN #[])∧(∃A' c',w'.heap[gq]?=aE (aI #[aL A' (n+1) c',.map (aE gm)] 171)∧w'.ownsRow base 181 1 (aL A' (n+1) c') (n+1) (xs++ [aK (aE ⟨gt,0,J⟩)])∧((Value.slice A' (n+1) c').ownBlock=(Value.slice A n c).ownBlock∨∃k,(Value.slice A' (n+1) c').ownBlock=aE k∧w.heap.size≤k))∧
 w'.heap[gt]?=aE (aI #[O Y i,O Y x,O Y ev,O Y (n:Int)] 183)∧Aw (fun k=>(Value.slice A n c).ownBlock=aE k∨k=gq∨k=gt) w w'
theorem Qn(gq gt gm n:Nat)(A:Option aW)(c base:Nat)(xs:List aT)(i x ev:Int)(w:aS)(hq:w.heap[gq]?=aE (aI #[aL A n c,.map (aE gm)] 171))(own:w.ownsRow base 181 1 (aL A n c) n xs)(ht:w.heap[gt]?=aE (aI #[O Y i,O Y x,O Y ev,O Y 0] 183))
  (h1:gq≠gt) (h2: ∀k,(Value.slice A n c).ownBlock=aE k→k≠gq∧k≠gt) (hn:n≤4) (hB:base≤w.heap.size):
  aU bH 418 #[aK (aE ⟨gq,0,J⟩),(.iface 181 (aK (aE ⟨gt,0,J⟩)))] w (lk gq gt gm n A c base xs i x ev w):=by
 have hta: ∀w,(Instr.typeAssert (.iface 181 (aK (aE ⟨gt,0,J⟩))) 20 181 aF).run bH w= .ok (aN #[aK (aE ⟨gt,0,J⟩),aG aF]) w:=fun w=>by kernel_rfl
 have q0:=bL (i:=0) hq D;have t3:=bL (i:=3) (v:=O Y 0) ht D;have f3:=bZ (i:=3) ht;have CZ:=cN (i:=3) ht (O Y (n:Int));have aw1:Aw (fun k=>k=gt) w (w.setCell ⟨gt,3,J⟩ (O Y (n:Int))):=(cY _ _).set (p:=⟨gt,3,J⟩) _ D;have M7:=aw1.keep hq h1;have wF:=iZ own aw1 (fun k hk hu=>(h2 k hk).2 hu);have Km:=bT hq;have hg2:=bT ht;have HY:=bK (bO M7 (bO wF (bO CZ (bO aw1 h2))));clear hq own ht CZ aw1 M7 wF h2;go_enter func418,ntmps418;go_wp2_with(at_builtin;refine rP ?_);obtain⟨hq,own,ht,aw1,h2⟩:=HY.out;clear HY q0 t3 f3 hta;have hb:aV (w.setCell ⟨gt,3,J⟩ (O Y (n:Int))).heap.size (w.setCell ⟨gt,3,J⟩ (O Y (n:Int))) ((w.setCell ⟨gt,3,J⟩ (O Y (n:Int))).alloc (aI #[aK (aE ⟨gt,0,J⟩)] 181)):=(bP _ _).alloc (bM _) _;have hz:(w.setCell ⟨gt,3,J⟩ (O Y (n:Int))).heap.size=w.heap.size:=by simp[World.setCell]
 have hrd:Rd ((w.setCell ⟨gt,3,J⟩ (O Y (n:Int))).alloc (aI #[aK (aE ⟨gt,0,J⟩)] 181)) (w.heap.size+1) 1 (aE ⟨w.heap.size,0,J⟩) 1 1 [aK (aE ⟨gt,0,J⟩)]:=by have:=Ee (w.setCell ⟨gt,3,J⟩ (O Y (n:Int))) 181 [aK (aE ⟨gt,0,J⟩)] (by simp[bB]);rw[hz] at this;exact this
 have hA2:Aw (fun _=>False) (w.setCell ⟨gt,3,J⟩ (O Y (n:Int))) ((w.setCell ⟨gt,3,J⟩ (O Y (n:Int))).alloc (aI #[aK (aE ⟨gt,0,J⟩)] 181)):=eS hb;replace hq:=hA2.keep hq (fun h=>h);replace own:=iZ own hA2 (fun k hk hu=>hu);replace ht:=hA2.keep ht (fun h=>h);have aw2:=aw1.trans (hA2.mono (fun k hk=>hk.elim));have Gc:((w.setCell ⟨gt,3,J⟩ (O Y (n:Int))).alloc (aI #[aK (aE ⟨gt,0,J⟩)] 181)).heap.size=(w.setCell ⟨gt,3,J⟩ (O Y (n:Int))).heap.size+1:=cL _ _;rw[hz] at Gc;have HZ:=bK Gc;clear hb hA2 aw1 hz;generalize G4:((w.setCell ⟨gt,3,J⟩ (O Y (n:Int))).alloc (aI #[aK (aE ⟨gt,0,J⟩)] 181))=w5 at*;clear G4 Gc;obtain⟨ii,hi⟩:=eW ny;refine eL (iY (base:=base) (n:=n) (xs:=xs) underlying169 hi D (by omega) own D hrd D (fun u hu=>by rw[List.mem_singleton.1 hu];rfl) (k:=n+1) D D (by unfold bB;omega) (by omega) (by rw[HZ.out];omega) ?_);intro A7 c7 w7 sC hgr zE;have hA7:=mA hgr;replace hq:=hA7.keep hq (fun hu=>(h2 _ hu).1 D);replace ht:=hA7.keep ht (fun hu=>(h2 _ hu).2 D);have aw7:Aw (fun k=>(Value.slice A n c).ownBlock=aE k∨k=gq∨k=gt) w w7:=(aw2.mono (fun k hk=> .inr (.inr hk))).trans (hA7.mono fun k hk=> .inl hk);have c0:=bL (i:=0) hq D;have f0:=bZ (i:=0) hq;have hq8:=cN (i:=0) hq (aL A7 (n+1) c7);have aw8:Aw (fun k=>k=gq) w7 (w7.setCell ⟨gq,0,J⟩ (aL A7 (n+1) c7)):=(cY _ _).set (p:=⟨gq,0,J⟩) _ D
 have h3: ∀k,(Value.slice A7 (n+1) c7).ownBlock=aE k→k≠gq:=fun k hk=>by
  rcases zE with h|h
  ·rw[h] at hk;exact(h2 k hk).1
  ·rw[h,HZ.out] at hk;injection hk with hk;omega
 have z8:=iZ sC aw8 (fun k hk hu=>h3 k hk hu);have ht8:=aw8.keep ht (fun h=>h1 h.symm);have aw9:=aw7.trans (aw8.mono (fun k hk=> .inr (.inl hk)))
 have HO:=bK (show(Value.slice A7 (n+1) c7).ownBlock=(Value.slice A n c).ownBlock∨∃k,(Value.slice A7 (n+1) c7).ownBlock=aE k∧w.heap.size≤k from by
  rcases zE with h|h
  ·exact .inl h
  ·exact .inr ⟨_,h,by rw[HZ.out];omega⟩)
 have HY:=bK (bO hq8 (bO z8 (bO ht8 aw9)));clear hq own sC ht aw7 hq8 aw8 z8 ht8 aw9 zE hgr hA7 h2 h3 hrd aw2 hi;go_wp2;refine dC (cT D _ _ _) D ?_;exact⟨D,⟨A7,c7,HY.out.1,HY.out.2.1,HO.out⟩,HY.out.2.2.1,HY.out.2.2.2⟩
theorem QR{w:aS}{base:Nat}{e:aY}{A:Option aW}{c:Nat}{u v:aT}(h:w.ownsRow base e 1 (aL A 2 c) 2 [u,v]): ∃gr cs,A=aE ⟨gr,0,J⟩∧base≤gr∧w.heap[gr]?=aE (aI cs e)∧cs[0]?=aE u∧cs[1]?=aE v∧2≤c:=by
 rcases h.2 with⟨_,h0⟩|⟨g,cap,cur,hv,hg,hw,hn,_,_,ht⟩
 ·cases h0
 ·injection hv with hA DA hc;refine⟨g,cur,hA,hg,hw,?_,?_,by rw[hc];exact hn⟩
  ·have:=gD (fun l=>l[0]?) ht;simpa using this
  ·have:=gD (fun l=>l[1]?) ht;simpa using this
theorem ly(gq:Nat): ∀k w,(bG (k+1) 185 (aK (aE ⟨gq,0,J⟩)) "Push").run bH w= .ok (418,aK (aE ⟨gq,0,J⟩)) w:=fun k w=>KW (by kernel_rfl) tB k w
def bj(gq gt gm:Nat)(i x ev:Int)(w:aS)(e:aX)(w':aS):Prop:=
 e=aJ (aN #[])∧(∃A c,w'.heap[gq]?=aE (aI #[aL A 1 c,.map (aE gm)] 171)∧w'.ownsRow w.heap.size 181 1 (aL A 1 c) 1 [aK (aE ⟨gt,0,J⟩)]∧(∀k,(Value.slice A 1 c).ownBlock=aE k→w.heap.size≤k))∧w'.heap[gt]?=aE (aI #[O Y i,O Y x,O Y ev,O Y 0] 183)∧Aw (fun k=>k=gq∨k=gt) w w'
theorem YZ(gq gt gm:Nat)(i x ev:Int)(w:aS)(hq:w.heap[gq]?=aE (aI #[aL J 0 0,.map (aE gm)] 171))(ht:w.heap[gt]?=aE (aI #[O Y i,O Y x,O Y ev,O Y 0] 183))(h1:gq≠gt):
  aU bH 62 #[(.iface 185 (aK (aE ⟨gq,0,J⟩))),(.iface 181 (aK (aE ⟨gt,0,J⟩)))] w (bj gq gt gm i x ev w):=by
 have HP:=bK (Qn gq gt gm 0 J 0 w.heap.size [] i x ev w hq (dF _ _ _ _) ht h1 (fun k hk=>by cases hk) (by omega) (bM _));have hm:=ly gq;clear hq ht;go_enter func62,ntmps62;go_wp2_with fail;go_fit HP.out;rintro e w2 ⟨rfl,⟨A,c,M7,wF,zE⟩,CZ,aw2⟩;replace M7:w2.heap[gq]?=aE (aI #[aL A 1 c,.map (aE gm)] 171):=M7;replace wF:w2.ownsRow w.heap.size 181 1 (aL A 1 c) 1 [aK (aE ⟨gt,0,J⟩)]:=wF;replace CZ:w2.heap[gt]?=aE (aI #[O Y i,O Y x,O Y ev,O Y 0] 183):=CZ;have hm:=(xQ M7).1
 have vl: ∀k,(Value.slice A 1 c).ownBlock=aE k→w.heap.size≤k:=fun k hk=>by
  rcases zE with h|⟨j,h,hj⟩
  ·have:(Value.slice A 1 c).ownBlock=J:=h;rw[this] at hk;cases hk
  ·have:(Value.slice A 1 c).ownBlock=aE j:=h;rw[this] at hk;injection hk with hk;omega
 have HY:=bK (bO M7 (bO wF (bO CZ (bO aw2 vl))));clear M7 wF CZ aw2 zE vl HP;go_wp2_with fail;go_fit(RI A 1 c w2);rintro e w3 ⟨rfl,rfl⟩;go_wp2_with fail;go_fit(kd _ w2);rintro e w3 ⟨rfl,rfl⟩;clear hm;go_wp2;refine dC (cT D _ _ _) D ?_;exact⟨D,⟨A,c,HY.out.1,HY.out.2.1,HY.out.2.2.2.2⟩,HY.out.2.2.1,HY.out.2.2.2.1.mono fun k hk=>hk.elim (fun h=>by cases h) (fun h=>h)⟩
def cx(gq gt ga gm:Nat)(A:Option aW)(c:Nat)(ia xa ea i x ev:Int)(w:aS)(e:aX)(w':aS):Prop:=
 e=aJ (aN #[])∧(∃gr c',DuR w' gq gm gr gt ga c' i x ev ia xa ea∧((Value.slice A 1 c).ownBlock=aE gr∨w.heap.size≤gr))∧Aw (fun k=>(Value.slice A 1 c).ownBlock=aE k∨k=gq∨k=gt∨k=ga∨w.heap.size≤k) w w'
theorem XW(gq gt ga gm:Nat)(A:Option aW)(c base:Nat)(ia xa ea i x ev:Int)(w:aS)(hq:w.heap[gq]?=aE (aI #[aL A 1 c,.map (aE gm)] 171))(own:w.ownsRow base 181 1 (aL A 1 c) 1 [aK (aE ⟨ga,0,J⟩)])(ha:w.heap[ga]?=aE (aI #[O Y ia,O Y xa,O Y ea,O Y 0] 183))(ht:w.heap[gt]?=aE (aI #[O Y i,O Y x,O Y ev,O Y 0] 183))
  (h1:gq≠gt) (h2:gq≠ga) (h3:ga≠gt) (h4: ∀k,(Value.slice A 1 c).ownBlock=aE k→k≠gq∧k≠gt∧k≠ga) (hB:base≤w.heap.size) (hx:x<xa):
  aU bH 62 #[(.iface 185 (aK (aE ⟨gq,0,J⟩))),(.iface 181 (aK (aE ⟨gt,0,J⟩)))] w (cx gq gt ga gm A c ia xa ea i x ev w):=by
 have HP:=bK (Qn gq gt gm 1 A c base [aK (aE ⟨ga,0,J⟩)] i x ev w hq own ht h1 (fun k hk=>⟨(h4 k hk).1,(h4 k hk).2.1⟩) (by omega) hB);have hm:=ly gq;have l1:=bT hq;have l2:=bT ha;have l3:=bT ht;have HA:=bK (bO ha (bO h4 hx));clear hq own ht ha h4 hx;go_enter func62,ntmps62;go_wp2_with fail;go_fit HP.out;rintro e w2 ⟨rfl,⟨A2,c2,M7,wF,zE⟩,CZ,aw2⟩;have h4:=HA.out.2.1;obtain⟨gr,cs,rfl,UL,hr,r0,r1,Tx⟩:=QR wF
 have hgr:(Value.slice A 1 c).ownBlock=aE gr∨w.heap.size≤gr:=by
  rcases zE with h|⟨j,h,hj⟩
  ·exact .inl h.symm
  ·have h:gr=j:=by simpa [Value.ownBlock] using h
   exact .inr (by omega)
 have hne:gr≠gq∧gr≠gt∧gr≠ga:=by
  rcases hgr with h|h
  ·exact h4 _ h
  ·omega
 have hd:DuR w2 gq gm gr ga gt c2 ia xa ea i x ev:=⟨M7,⟨cs,hr,r0,r1⟩,aw2.keep HA.out.1 (fun hu=>by
  rcases hu with hu|hu|hu
  ·exact(h4 _ hu).2.2 D
  ·exact h2 hu.symm
  ·exact h3 hu),CZ,⟨fun h=>hne.1 h.symm,h2,h1,hne.2.2,hne.2.1,h3⟩,Tx⟩
 have hm:=(xQ hd.q).1;have HU:=bK (zd gq gm gr ga gt c2 ia xa ea i x ev w2 hd HA.out.2.2);have HG:=bK (bO hgr aw2);clear hd M7 wF zE CZ aw2 hr r0 r1 HP h4;go_wp2_with fail;go_fit(RI _ 2 c2 w2);rintro e w3 ⟨rfl,rfl⟩;go_wp2_with fail;go_fit HU.out;rintro e w3 ⟨rfl,h5,aw5⟩;have HY:=bK (bO h5 aw5);clear hm h5 aw5 HU;go_wp2;refine dC (cT D _ _ _) D ?_;refine⟨D,⟨gr,c2,HY.out.1,HG.out.1⟩,(HG.out.2.mono fun k hk=> ?_).trans (HY.out.2.mono fun k hk=> ?_)⟩
 ·rcases hk with hk|hk|hk
  ·exact .inl hk
  ·exact .inr (.inl hk)
  ·exact .inr (.inr (.inl hk))
 ·rcases hk with hk|hk|hk
  ·rcases HG.out.1 with h|h
   ·exact .inl (by rw[hk];exact h)
   ·exact .inr (.inr (.inr (.inr (by omega))))
  ·exact .inr (.inr (.inr (.inl hk)))
  ·exact .inr (.inr (.inl hk))
theorem Xr(gq gm n c ck:Nat)(A:Option aW)(id:Int)(es:Array MapEntry)(w:aS)(hq:w.heap[gq]?=aE (aI #[aL A n c,.map (aE gm)] 171))(hm:w.heap[gm]?=aE (.map es ck))(hf:Instr.findNow (.int Y) (O Y id) es.toList 0=aE J):
  aU bH 61 #[aK (aE ⟨gq,0,J⟩),O Y id] w fun e w'=>e=aJ (aG aD)∧w=w':=by
 have hl:=Ze underlying167 dB (show(zeroValue 181).run bH w= .ok (aK J) w from by kernel_rfl) hm hf;have HT:=bK (B5 gq gm A n c w hq);have c1:=bL (i:=1) (v:= .map (aE gm)) hq D;clear hq hm hf;go_enter func61,ntmps61;go_wp2_with fail;go_fit HT.out;rintro e w2 ⟨rfl,rfl⟩;go_wp2;go_ret;exact⟨D,D⟩
def nh(gq gm:Nat)(w:aS)(e:aX)(w':aS):Prop:=
 e=aJ (aG aF)∧(∃A c es ck,w'.heap[gq]?=aE (aI #[aL A 1 c,.map (aE gm)] 171)∧w'.ownsRow (w.heap.size+1) 181 1 (aL A 1 c) 1 [aK (aE ⟨w.heap.size,0,J⟩)]∧w'.heap[gm]?=aE (.map es ck)∧Instr.findNow (.int Y) (O Y 1) es.toList 0=aE J)∧w'.heap[w.heap.size]?=aE (aI #[O Y 0,O Y 1000,O Y 1000,O Y 0] 183)∧Aw (fun k=>k=gq∨k=gm) w w'
theorem ml(gq gm ck:Nat)(w:aS)(hq:w.heap[gq]?=aE (aI #[aL J 0 0,.map (aE gm)] 171))(VK:w.heap[gm]?=aE (.map #[] ck))(vm:gq≠gm):
  aU bH 41 #[aK (aE ⟨gq,0,J⟩),O Y 0,O Y 1000,O Y 1000] w (nh gq gm w):=by
 have HT:=bK (B5 gq gm J 0 0 w hq);have HU:=bK (Xr gq gm 0 0 ck J 0 #[] w hq VK D);have lq:=bT hq;have lm:=bT VK;have hbn:aV w.heap.size w (w.alloc (aI #[O Y 0,O Y 1000,O Y 1000,O Y 0] 183)):=(bP _ _).alloc (bM _) _;have n1:=bS w (aI #[O Y 0,O Y 1000,O Y 1000,O Y 0] 183);have q1:=bV hq hbn lq;have m1:=bV VK hbn lm;have hmu:=Mm (n:=0) (v:=aK (aE ⟨w.heap.size,0,J⟩)) underlying167 dB m1 D;have c1:=bL (i:=1) (v:= .map (aE gm)) q1 D;have aw2:Aw (fun k=>k=gm) (w.alloc (aI #[O Y 0,O Y 1000,O Y 1000,O Y 0] 183)) ((w.alloc (aI #[O Y 0,O Y 1000,O Y 1000,O Y 0] 183)).putObj gm (.map ((#[]:Array MapEntry).push { key:=O Y 0,val:=aK (aE ⟨w.heap.size,0,J⟩),born:=ck }) (ck+1))):=(cY _ _).put _ D;have q2:=aw2.keep q1 vm;have n2:=aw2.keep n1 (by omega);have m2:((w.alloc (aI #[O Y 0,O Y 1000,O Y 1000,O Y 0] 183)).putObj gm (.map ((#[]:Array MapEntry).push { key:=O Y 0,val:=aK (aE ⟨w.heap.size,0,J⟩),born:=ck }) (ck+1))).heap[gm]?=_:=lF (by rw[cL];omega);have z2:((w.alloc (aI #[O Y 0,O Y 1000,O Y 1000,O Y 0] 183)).putObj gm (.map ((#[]:Array MapEntry).push { key:=O Y 0,val:=aK (aE ⟨w.heap.size,0,J⟩),born:=ck }) (ck+1))).heap.size=w.heap.size+1:=by rw[qL,cL]
 have NN:Aw (fun k=>k=gm) w ((w.alloc (aI #[O Y 0,O Y 1000,O Y 1000,O Y 0] 183)).putObj gm (.map ((#[]:Array MapEntry).push { key:=O Y 0,val:=aK (aE ⟨w.heap.size,0,J⟩),born:=ck }) (ck+1))):=(eS hbn).trans aw2;have HP:=bK (YZ gq w.heap.size gm 0 1000 1000 _ q2 n2 (by omega));have HM:=bK (bO m2 (bO NN (bO z2 vm)));clear hq VK hbn n1 q1 m1 aw2 q2 n2 m2 z2 NN;go_enter func41,ntmps41;go_wp2_with fail;go_fit HT.out;rintro e w1 ⟨rfl,rfl⟩;go_wp2_with fail;go_fit(Xw w);rintro e w1 ⟨rfl,rfl⟩;go_wp2_with fail;go_fit(Xw w);rintro e w1 ⟨rfl,rfl⟩;go_wp2_with fail;go_fit HU.out;rintro e w1 ⟨rfl,rfl⟩;go_wp2_with fail;go_fit HP.out;rintro e w3 ⟨rfl,⟨A,c,q3,mM,zE⟩,t3,aw3⟩;have m3:=aw3.keep HM.out.1 (fun hu=>by rcases hu with hu|hu;exact HM.out.2.2.2 hu.symm;omega);have NO:Aw (fun k=>k=gq∨k=gm) w w3:=⟨aw3.os.trans HM.out.2.1.os,aw3.tape.trans HM.out.2.1.tape,aw3.output.trans HM.out.2.1.output,bU HM.out.2.1.size aw3.size,fun k hk hu=>(aw3.block k (by rw[HM.out.2.2.1];omega) (fun h=>by rcases h with h|h;exact hu (.inl h);omega)).trans (HM.out.2.1.block k hk (fun h=>hu (.inr h)))⟩;have XU:w3.ownsRow (w.heap.size+1) 181 1 (aL A 1 c) 1 [aK (aE ⟨w.heap.size,0,J⟩)]:=by have:=mM;rw[HM.out.2.2.1] at this;exact this
 have HY:=bK (bO q3 (bO XU (bO m3 (bO t3 NO))));clear q3 mM XU m3 t3 NO aw3 zE HM hmu c1 HP HT HU;go_wp2;go_ret;exact⟨D,⟨A,c,_,_,HY.out.1,HY.out.2.1,HY.out.2.2.1,D⟩,HY.out.2.2.2.1,HY.out.2.2.2.2⟩
def mi(gq gm ga:Nat)(w:aS)(e:aX)(w':aS):Prop:=
 e=aJ (aG aF)∧(∃gr c,DuR w' gq gm gr w.heap.size ga c 1 100 100 0 1000 1000∧ga<gr)∧Aw (fun k=>k=gq∨k=gm∨k=ga∨ga<k) w w'
theorem nk(gq gm ga ck c:Nat)(A:Option aW)(es:Array MapEntry)(w:aS)(hq:w.heap[gq]?=aE (aI #[aL A 1 c,.map (aE gm)] 171))(own:w.ownsRow (ga+1) 181 1 (aL A 1 c) 1 [aK (aE ⟨ga,0,J⟩)])(ha:w.heap[ga]?=aE (aI #[O Y 0,O Y 1000,O Y 1000,O Y 0] 183))(VK:w.heap[gm]?=aE (.map es ck))(hf:Instr.findNow (.int Y) (O Y 1) es.toList 0=aE J)(vm:gq≠gm)(hqa:gq<ga)(hma:gm<ga):
  aU bH 41 #[aK (aE ⟨gq,0,J⟩),O Y 1,O Y 100,O Y 100] w (mi gq gm ga w):=by
 have HT:=bK (B5 gq gm A 1 c w hq);have HU:=bK (Xr gq gm 1 c ck A 1 es w hq VK hf);have lq:=bT hq;have lm:=bT VK;have hbn:aV w.heap.size w (w.alloc (aI #[O Y 1,O Y 100,O Y 100,O Y 0] 183)):=(bP _ _).alloc (bM _) _;have n1:=bS w (aI #[O Y 1,O Y 100,O Y 100,O Y 0] 183);have q1:=bV hq hbn lq;have m1:=bV VK hbn lm;have hmu:=Mm (n:=1) (v:=aK (aE ⟨w.heap.size,0,J⟩)) underlying167 dB m1 hf;have c1:=bL (i:=1) (v:= .map (aE gm)) q1 D;have aw2:Aw (fun k=>k=gm) (w.alloc (aI #[O Y 1,O Y 100,O Y 100,O Y 0] 183)) ((w.alloc (aI #[O Y 1,O Y 100,O Y 100,O Y 0] 183)).putObj gm (.map (es.push { key:=O Y 1,val:=aK (aE ⟨w.heap.size,0,J⟩),born:=ck }) (ck+1))):=(cY _ _).put _ D;have q2:=aw2.keep q1 vm;have n2:=aw2.keep n1 (by omega);have m2:((w.alloc (aI #[O Y 1,O Y 100,O Y 100,O Y 0] 183)).putObj gm (.map (es.push { key:=O Y 1,val:=aK (aE ⟨w.heap.size,0,J⟩),born:=ck }) (ck+1))).heap[gm]?=_:=lF (by rw[cL];omega);have z2:((w.alloc (aI #[O Y 1,O Y 100,O Y 100,O Y 0] 183)).putObj gm (.map (es.push { key:=O Y 1,val:=aK (aE ⟨w.heap.size,0,J⟩),born:=ck }) (ck+1))).heap.size=w.heap.size+1:=by rw[qL,cL]
 have NN:Aw (fun k=>k=gm) w ((w.alloc (aI #[O Y 1,O Y 100,O Y 100,O Y 0] 183)).putObj gm (.map (es.push { key:=O Y 1,val:=aK (aE ⟨w.heap.size,0,J⟩),born:=ck }) (ck+1))):=(eS hbn).trans aw2;have la:=bT ha;have a2:=aw2.keep (bV ha hbn la) (by omega);have wF:=iZ (jK own hbn (bM _)) aw2 (fun k hk hu=>by have:=eU own hk;omega);have HO:=bK (show∀k,(Value.slice A 1 c).ownBlock=aE k→ga<k from fun k hk=>by have:=eU own hk;omega);have HP:=bK (XW gq w.heap.size ga gm A c (ga+1) 0 1000 1000 1 100 100 _ q2 wF a2 n2 (by omega) (by omega) (by omega) (fun k hk=>by have:=eU own hk;omega) (by rw[z2];omega) (by omega));have HM:=bK (bO m2 (bO NN (bO z2 vm)));clear own wF ha a2 hq VK hf hbn n1 q1 m1 aw2 q2 n2 m2 z2 NN;go_enter func41,ntmps41;go_wp2_with fail;go_fit HT.out;rintro e w1 ⟨rfl,rfl⟩;go_wp2_with fail;go_fit(KQ w);rintro e w1 ⟨rfl,rfl⟩;go_wp2_with fail;go_fit(KQ w);rintro e w1 ⟨rfl,rfl⟩;go_wp2_with fail;go_fit HU.out;rintro e w1 ⟨rfl,rfl⟩;go_wp2_with fail;go_fit HP.out;rintro e w3 ⟨rfl,⟨gr,c3,hd3,hgr⟩,aw3⟩
 have NO:Aw (fun k=>k=gq∨k=gm∨k=ga∨ga<k) w w3:=⟨aw3.os.trans HM.out.2.1.os,aw3.tape.trans HM.out.2.1.tape,aw3.output.trans HM.out.2.1.output,bU HM.out.2.1.size aw3.size,fun k hk hu=>(aw3.block k (by rw[HM.out.2.2.1];omega) (fun h=>by
  rcases h with h|h|h|h|h
  ·have:=HO.out k h;omega
  ·omega
  ·omega
  ·omega
  ·rw[HM.out.2.2.1] at h;omega)).trans (HM.out.2.1.block k hk (fun h=>by omega))⟩
 have fF:ga<gr:=by
  rcases hgr with h|h
  ·exact HO.out _ h
  ·rw[HM.out.2.2.1] at h;omega
 have HY:=bK (bO hd3 (bO NO fF));clear hd3 NO aw3 hgr HM hmu c1 HP HT HU fF;go_wp2;go_ret;exact⟨D,⟨gr,c3,HY.out.1,HY.out.2.2⟩,HY.out.2.1⟩
theorem WA(gq gm n c:Nat)(A:Option aW)(w:aS)(hq:w.heap[gq]?=aE (aI #[aL A n c,.map (aE gm)] 171)):aU bH 129 #[aK (aE ⟨gq,0,J⟩)] w fun e w'=>e=aJ (O Y (n:Int))∧w=w':=by
 have c0:=bL (i:=0) (v:=aL A n c) hq D;have HT:=bK (B5 gq gm A n c w hq);clear hq;go_enter func129,ntmps129;go_wp2_with fail;go_fit HT.out;rintro e w1 ⟨rfl,rfl⟩;go_wp2_with fail;go_fit(RI A n c w);rintro e w1 ⟨rfl,rfl⟩;go_wp2;go_ret;exact⟨D,D⟩
theorem QL(gq gm gr ga gb c:Nat)(ia xa ea ib xb eb:Int)(w:aS)(h:DuR w gq gm gr ga gb c ia xa ea ib xb eb)(hx:1000<xa):
  aU bH 98 #[aK (aE ⟨gq,0,J⟩),O Y 1000] w fun e w'=>e=aJ (aN #[O Y 0,O Y 0,aG aD])∧w=w':=by
 obtain⟨cs,hr,h0,_⟩:=h.r;have c0:=bL (i:=0) (v:=aL (aE ⟨gr,0,J⟩) 2 c) h.q D;have r0:w.cell? ⟨gr,0,J⟩=aE (aK (aE ⟨ga,0,J⟩)):=bL (i:=0) hr h0;have a1:=bL (i:=1) (v:=O Y xa) h.a D;have HT:=bK (WA gq gm 2 c _ w h.q);clear h hr h0;go_enter func98,ntmps98;go_wp2_with fail;go_fit HT.out;rintro e w1 ⟨rfl,rfl⟩;go_wp2;go_ret3;exact⟨D,D⟩
def kt(r:Bool)(gq gm gr ga gb c:Nat)(ia xa ea ib xb eb:Int)(w:aS)(e:aX)(w':aS):Prop:=
 e=aJ (aN #[O Y ia,O Y xa,aG aF])∧(r=aD→DuR w' gq gm gr ga gb c ia (xa+ea) ea ib xb eb)∧(r=aF→DuR w' gq gm gr gb ga c ib xb eb ia (xa+ea) ea)∧Aw (Tu gr ga gb) w w'
theorem Ra(r:Bool)(gq gm gr ga gb c:Nat)(ia xa ea ib xb eb:Int)(w:aS)(h:DuR w gq gm gr ga gb c ia xa ea ib xb eb)(hx:xa≤1000)(h0x:0≤xa)(he:0<ea)(jw:ea≤1000)(hR:r=decide (xb<xa+ea∨(xb=xa+ea∧ib<ia))):
  aU bH 98 #[aK (aE ⟨gq,0,J⟩),O Y 1000] w (kt r gq gm gr ga gb c ia xa ea ib xb eb w):=by
 obtain⟨cs,hr,h0,h1⟩:=h.r;have c0:=bL (i:=0) (v:=aL (aE ⟨gr,0,J⟩) 2 c) h.q D;have r0:w.cell? ⟨gr,0,J⟩=aE (aK (aE ⟨ga,0,J⟩)):=bL (i:=0) hr h0;have a1:=bL (i:=1) (v:=O Y xa) h.a D;have a2:=bL (i:=2) (v:=O Y ea) h.a D;have b1:w.drew.cell? ⟨ga,1,J⟩=aE (O Y xa):=a1;have b2:w.drew.cell? ⟨ga,2,J⟩=aE (O Y ea):=a2;have s1:w.drew.frozen? ⟨ga,1,J⟩=aD:=bZ (i:=1) h.a;have HT:=bK (WA gq gm 2 c _ w h.q);have i1: ¬(1000:Int)<xa:=by omega
 have i2:(ea==0)=aD:=by rw[beq_eq_false_iff_ne];omega
 have hw:IntKind.i64.wrap (xa+ea)=xa+ea:=fV _ (by omega);have aw1:Aw (fun k=>k=ga) w (w.drew.setCell ⟨ga,1,J⟩ (O Y (xa+ea))):=((cY _ w).drew).set (p:=⟨ga,1,J⟩) _ D;have ha2:(w.drew.setCell ⟨ga,1,J⟩ (O Y (xa+ea))).heap[ga]?=_:=cN (w:=w.drew) (i:=1) h.a (O Y (xa+ea));obtain⟨d1,d2,d3,d4,d5,d6⟩:=h.d;have h2:DuR (w.drew.setCell ⟨ga,1,J⟩ (O Y (xa+ea))) gq gm gr ga gb c ia (xa+ea) ea ib xb eb:=⟨aw1.keep h.q d2,⟨cs,aw1.keep hr d4,h0,h1⟩,ha2,aw1.keep h.b (fun h=>d6 h.symm),h.d,h.c2⟩;have HF:=bK (zq gq gm gr ga gb c ia (xa+ea) ea ib xb eb r _ h2 hR);have HA:=bK aw1;have HW:=bK hw;clear h hr h0 h1 hw aw1 ha2 h2 hR d1 d2 d3 d4 d5 d6;go_enter func98,ntmps98;go_wp2_with fail;go_fit HT.out;rintro e w1 ⟨rfl,rfl⟩;go_wp2_with fail;refine cQ (fun _=>True) aF [55,59] (by kernel_rfl) (by kernel_rfl) cM ?_;clear c0 r0 a1 a2 i1 i2 HT;generalize w.drew=w2 at*;iterate 3 refine Ord.K ?_
 refine eP dB D b1 D (by kernel_rfl) (by kernel_rfl) ?_;refine PT ?_;iterate 3 refine Ord.K ?_
 refine eP dB D b2 D (by kernel_rfl) (by kernel_rfl) ?_;refine PT ?_;iterate 3 refine Ord.K ?_
 try simp only[HW.out]
 refine Ord.X ?_;go_wp2;refine cC cM (fun h=>by cases h) ?_;refine PT ?_;refine cV ?_;clear b1 b2 s1;generalize(w2.setCell ⟨ga,1,J⟩ (O Y (xa+ea)))=w3 at*;go_wp2_with fail;go_fit HF.out;rintro e w4 ⟨rfl,hf,ht,aw4⟩;have vn:Aw (Tu gr ga gb) w w4:=(HA.out.mono (fun k hk=> .inr (.inl hk))).trans aw4
 have ai:w4.cell? ⟨ga,0,J⟩=aE (O Y ia):=by
  cases r with
  |false=>exact bL (i:=0) (hf D).a D
  |true=>exact bL (i:=0) (ht D).b D
 have HY:=bK (bO hf (bO ht vn));clear hf ht aw4 vn HF HA;go_wp2;go_ret3;exact⟨D,HY.out⟩
theorem Ox{w:aS}{g e:Nat}{L:List aT}(h:w.heap[g]?=aE (aI L.toArray e)):w.rangeAt g 0 L:=jT h 0 (fun j v hv=>by rw[fZ,dO];exact hv)
theorem ow(w:aS):aU bH 131 #[aM #[O aO 1073741824,O aO 0,O aO 0,O aO 0,O aO 0,O aO 0,O aO 0,O Y 0,O Y 0]] w fun e w'=>e=aJ (O aR 537395712)∧aV w.heap.size w w':=by
 have a0:=bS w (aI #[O aO 1073741824,O aO 0,O aO 0,O aO 0,O aO 0,O aO 0,O aO 0,O Y 0,O Y 0] 44);have hb:aV w.heap.size w (w.alloc (aI #[O aO 1073741824,O aO 0,O aO 0,O aO 0,O aO 0,O aO 0,O aO 0,O Y 0,O Y 0] 44)):=(bP _ _).alloc (bM _) _;have c0:=bL (i:=0) (v:=O aO 1073741824) a0 D;have c1:=bL (i:=1) (v:=O aO 0) a0 D;have c2:=bL (i:=2) (v:=O aO 0) a0 D;have c3:=bL (i:=3) (v:=O aO 0) a0 D;go_enter func131,ntmps131;go_wp2_with fail;go_fit(my _);rintro e w2 ⟨rfl,hbx⟩;have hb2:=eI hb hbx;clear hb hbx a0 c0 c1 c2 c3;go_wp2;go_ret;exact⟨D,hb2⟩
theorem TV(gd g:Nat)(w:aS)(h:w.heap[gd]?=aE (aI #[aK (aE ⟨g,0,J⟩),O Y 0,O Y 0,O Y 0,O Y 0,O Y 0,O Y 0,O Y 0,O Y 0,O Y 0,O Y 0,O Y 0,O Y 0,O Y 0] 165)):aU bH 34 #[aK (aE ⟨gd,0,J⟩)] w fun e w'=>e=aJ (aM #[O Y 0,O Y 0,O Y 0,O Y 0,O Y 0,O Y 0,O Y 0,O Y 0,O Y 0,O Y 0,O Y 0,O Y 0,O Y 0])∧aV w.heap.size w w':=by
 obtain⟨a0,a1,hz,hb⟩:=yZ w (aI #[O Y 0,O Y 0,O Y 0,O Y 0,O Y 0,O Y 0,O Y 0,O Y 0,O Y 0,O Y 0,O Y 0,O Y 0,O Y 0] 27) (aI #[O Y 0,O Y 0,O Y 0,O Y 0] 25);have hd:=bV h hb (bT h);have wC:aV w.heap.size w ((w.alloc (aI #[O Y 0,O Y 0,O Y 0,O Y 0,O Y 0,O Y 0,O Y 0,O Y 0,O Y 0,O Y 0,O Y 0,O Y 0,O Y 0] 27)).alloc (aI #[O Y 0,O Y 0,O Y 0,O Y 0] 25)).drew:=hb.drew;have heq: ∀w,(binOp .eql 25 (aM #[O Y 0,O Y 0,O Y 0,O Y 0]) (aM #[O Y 0,O Y 0,O Y 0,O Y 0])).run bH w= .ok (aG aF) w:=fun w=>by kernel_rfl
 have HD:=bK (bO hd (bO a0 (bO a1 wC)));clear h a0 a1 hz hb hd wC;go_enter func34,ntmps34;go_wp2_with fail;refine cQ (fun w'=>aV ((w.alloc (aI #[O Y 0,O Y 0,O Y 0,O Y 0,O Y 0,O Y 0,O Y 0,O Y 0,O Y 0,O Y 0,O Y 0,O Y 0,O Y 0] 27)).alloc (aI #[O Y 0,O Y 0,O Y 0,O Y 0] 25)).heap.size ((w.alloc (aI #[O Y 0,O Y 0,O Y 0,O Y 0,O Y 0,O Y 0,O Y 0,O Y 0,O Y 0,O Y 0,O Y 0,O Y 0,O Y 0] 27)).alloc (aI #[O Y 0,O Y 0,O Y 0,O Y 0] 25)) w') aD [] (by kernel_rfl) (by kernel_rfl) ((bP _ _).drew) ?_;obtain⟨hd,a0,a1,hb⟩:=HD.out;clear HD;generalize((w.alloc (aI #[O Y 0,O Y 0,O Y 0,O Y 0,O Y 0,O Y 0,O Y 0,O Y 0,O Y 0,O Y 0,O Y 0,O Y 0,O Y 0] 27)).alloc (aI #[O Y 0,O Y 0,O Y 0,O Y 0] 25))=w2 at*;have c1:=bL (i:=1) (v:=O Y 0) hd D;have ld:=bT hd;have l1:=bT a1;have r10:w2.rangeAt gd 10 [O Y 0,O Y 0,O Y 0,O Y 0]:=fun j v hv=>bL hd (by rcases j with _|_|_|_|j<;>first|exact hv|(simp at hv));have rz:w2.rangeAt (w.heap.size+1) 0 [O Y 0,O Y 0,O Y 0,O Y 0]:=Ox a1;have hS:aV w2.heap.size w2 w2.drew:=(bP _ _).drew;have HT:=bK (Vf gd g w2.drew hd);have HG:=bK (bO a0 hb);clear hd a0 a1 hb;generalize w2.drew=wd at*;with_reducible refine nD ?_
 refine Ord.X ?_;go_wp2_with fail;go_fit HT.out;rintro e w3 ⟨rfl,rfl⟩;go_wp2_with fail;refine cC hS (fun h=>by cases h) ?_;refine PT ?_;iterate 6 with_reducible refine nD ?_
 refine cR dB D (fun w' hS=>((show aV _ w2 w' from hS).cell (p:=⟨gd,1,J⟩) ld).trans c1) hS D (by kernel_rfl) ?_;refine PT ?_;iterate 6 with_reducible refine nD ?_
 refine eA underlying25 D (by kernel_rfl) D (by simp) (fun w' hS j v hv=>((show aV _ w2 w' from hS).cell (p:=⟨gd,10+j,J⟩) ld).trans (r10 j v hv)) hS (by kernel_rfl) ?_;refine PT ?_;refine eA underlying25 D (by kernel_rfl) D (by simp) (fun w' hS j v hv=>((show aV _ w2 w' from hS).cell (p:=⟨w.heap.size+1,0+j,J⟩) l1).trans (rz j v hv)) hS (by kernel_rfl) ?_;refine PT ?_;iterate 3 with_reducible refine nD ?_
 refine cV ?_;obtain⟨a0,hb⟩:=HG.out;have a2:=bV a0 hS (bT a0);have hb2:=hb;clear HG HT a0 hb hS c1 ld l1 r10 rz heq;have hb3:=below_setRow hb2 (bM _) (#[O Y 0,O Y 0,O Y 0,O Y 0,O Y 0,O Y 0,O Y 0,O Y 0,O Y 0,O Y 0,O Y 0,O Y 0,O Y 0]:Array aT);have h3:=setRow_heap _ _ _ (#[O Y 0,O Y 0,O Y 0,O Y 0,O Y 0,O Y 0,O Y 0,O Y 0,O Y 0,O Y 0,O Y 0,O Y 0,O Y 0]:Array aT) _ _ a2;have HY:=bK (bO hb3 h3);clear hb3 h3;go_wp2_with(with_reducible refine sG [27] ?_);refine eL (wpList_store_row D _ _ _ D w.heap.size (#[O Y 0,O Y 0,O Y 0,O Y 0,O Y 0,O Y 0,O Y 0,O Y 0,O Y 0,O Y 0,O Y 0,O Y 0,O Y 0]:Array aT) D D _ _ a2 (by kernel_rfl) D (by kernel_rfl) ?_);simp only[Act.put];repeat go_step
 exact bR (tW D _ _ w.heap.size _ _ _ _ D HY.out.2 underlying27 D (by kernel_rfl)) D ⟨D,HY.out.1⟩
def BY(st now:Int)(out:aT)(gd gt gh ga gb:Nat):Array aT:=
 #[O Y 1,O Y 1,O Y st,out,O Y now,aK (aE ⟨gd,0,J⟩),O aO 1073741824,O aO 0,O aO 0,O aO 0,O aO 0,O aO 0,O aO 0,O Y 0,O Y 0,aK (aE ⟨gt,0,J⟩),aK (aE ⟨gh,0,J⟩),aK (aE ⟨ga,0,J⟩),aK (aE ⟨gb,0,J⟩),O Y 0,aG aD,O aO 0,O aO 0,O aO 0,aK J,aG aD,O aR 0,O Y 0,O Y 0,O Y 0,O Y 0]
theorem yy: ∃i bs,Tryz.prog.info? 136=aE i∧i.zero=aE (.agg zeroCells136)∧i.size=123∧i.bytes=bs∧bs≤4096:=by
 have h:(Tryz.prog.info? 136).map (fun i=>(i.zero,i.size,decide (i.bytes≤4096)))=aE (aE (.agg zeroCells136),123,aF):=by kernel_rfl
 cases hi:Tryz.prog.info? 136 with
 |none=>rw[hi] at h;cases h
 |some i=>
  rw[hi] at h;simp only[pR,Option.some.injEq,Prod.mk.injEq,iP] at h;exact⟨i,i.bytes,D,h.1,h.2.1,D,h.2.2⟩
theorem WE:Tryz.zeroCells136.size=123:=by kernel_rfl
def NdB(w:aS)(gn B:Nat)(st now:Int)(A:Option aW)(n c:Nat)(xs:List aT)(gd gt gh ga gb:Nat):Prop:=
 w.heap[gn]?=aE (aI (BY st now (aL A n c) gd gt gh ga gb) 134)∧w.ownsRow B 136 123 (aL A n c) n xs∧gn<B
def KS(gn B:Nat)(st now:Int)(A:Option aW)(n c:Nat)(gd gt gh ga gb:Nat)(w:aS)(e:aX)(w':aS):Prop:=
 e=aJ (aN #[])∧(∃A' c' vo,NdB w' gn B st now A' (n+1) c' vo gd gt gh ga gb)∧Aw (fun k=>(Value.slice A n c).ownBlock=aE k∨k=gn) w w'
theorem WJ(gn B:Nat)(st now:Int)(A:Option aW)(n c:Nat)(xs:List aT)(gd gt gh ga gb:Nat)(L:List aT)(w:aS)(h:NdB w gn B st now A n c xs gd gt gh ga gb)(hL:L.length=123)(h1: ∀u∈L,u.oneCell'=aF)(hn:n≤1000)(hB:B≤w.heap.size):
  aU bH 95 #[aK (aE ⟨gn,0,J⟩),.agg L.toArray] w (KS gn B st now A n c gd gt gh ga gb w):=by
 obtain⟨hN,own,XG⟩:=h;have hbn:aV w.heap.size w (w.alloc (aI L.toArray 136)):=(bP _ _).alloc (bM _) _;have e0:=bS w (aI L.toArray 136);have N1:=bV hN hbn (bT hN);have sB:=jK own hbn (bM _);have lN:=bT hN;have HG:=bK (bO N1 (bO sB (bO e0 hbn)));have HL:=bK (bO hL h1);clear hN own hbn e0 N1 sB hL h1;go_enter func95,ntmps95;go_wp2_with fail;refine cQ (fun _=>True) aF [8,9] (by kernel_rfl) (by kernel_rfl) cM ?_;obtain⟨N1,sB,e0,hb⟩:=HG.out;replace N1:(w.alloc (aI L.toArray 136)).drew.heap[gn]?=_:=N1;replace sB:(w.alloc (aI L.toArray 136)).drew.ownsRow B 136 123 (aL A n c) n xs:=sB;have e9:(w.alloc (aI L.toArray 136)).drew.rangeAt w.heap.size 0 L:=Ox (w:=(w.alloc (aI L.toArray 136)).drew) e0;replace hb:=hb.drew;clear HG e0;generalize(w.alloc (aI L.toArray 136)).drew=w2 at*;have c8:=bL (i:=3) (v:=aL A n c) N1 D;iterate 4 refine Ord.K ?_
 refine eP underlying35 D c8 D (by kernel_rfl) (by kernel_rfl) ?_;refine PT ?_;refine kS (b:=w.heap.size) (o:=0) (cs:=L) underlying136 D (by rw[HL.out.1];kernel_rfl) D e9 (by kernel_rfl) (by kernel_rfl) ?_;refine PT ?_;clear c8 e9;obtain⟨ii,bs,As,zC,F9,uy,jr⟩:=yy;have Hii:=bK jr;have HII:=bK (bO As (bO zC (bO F9 uy)));clear As zC F9 jr uy;refine Ord.X ?_;go_wp2_with(with_reducible refine Rb ?_);refine eL (Gq underlying35 HII.out WE (by omega) (by omega) HL.out.1 D ?_);have hbq:aV w2.heap.size w2 (w2.alloc (aI L.toArray 136)):=(bP _ _).alloc (bM _) _;have hrd:Rd (w2.alloc (aI L.toArray 136)) (w2.heap.size+1) 123 (aE ⟨w2.heap.size,0,J⟩) 1 1 L:=by have:=yX (sQ (size:=123) (e:=136) w2 [L] L.toArray (by simp) (by intro r hr;rw[List.mem_singleton.1 hr];exact HL.out.1) (by simp[bB]) 1 D) (by omega);simpa using this
 refine eL (cC cM (fun _=>hbq) ?_);refine PT ?_;replace N1:=bV N1 hbq (bT N1);replace sB:=jK sB hbq (bM _);replace hb:=eI hb hbq;clear hbq;obtain⟨gN,Zd⟩: ∃g,g=w2.heap.size:=⟨_,D⟩;rw[←Zd] at hrd ⊢;clear Zd;generalize(w2.alloc (aI L.toArray 136))=w4 at*;refine Ord.X ?_;go_wp2_with(at_builtin;refine rP ?_);refine eL (iY (base:=B) (n:=n) (xs:=xs) (k:=n+1) (ys:=xs++L) underlying35 HII.out WE (by omega) sB D hrd D HL.out.2 D D (by unfold bB;omega) (by have:=Hii.out;exact bU (Nat.mul_le_mul (show n+1≤1001 by omega) this) (by decide)) (bU hB hb.size) ?_);intro A7 c7 w7 sC hgr zE;have hA7:=mA hgr;have po: ∀k,(Value.slice A n c).ownBlock=aE k→k≠gn:=fun k hk=>by have:=(eU sB hk).1;omega
 have N7:=hA7.keep N1 (fun hu=>po _ hu D);have aw7:Aw (fun k=>(Value.slice A n c).ownBlock=aE k∨k=gn) w w7:=(eS hb).trans (hA7.mono fun k hk=> .inl hk);have c3:=bL (i:=3) (v:=aL A n c) N7 D;have f3:=bZ (i:=3) N7;have N8:(w7.setCell ⟨gn,3,J⟩ (aL A7 (n+1) c7)).heap[gn]?=aE (aI (BY st now (aL A7 (n+1) c7) gd gt gh ga gb) 134):=cN (i:=3) N7 (aL A7 (n+1) c7);have aw8:Aw (fun k=>k=gn) w7 (w7.setCell ⟨gn,3,J⟩ (aL A7 (n+1) c7)):=(cY _ _).set (p:=⟨gn,3,J⟩) _ D;have z8:=iZ sC aw8 (fun k hk hu=>by have:=(eU sC hk).1;omega);have HY:=bK (bO (show NdB (w7.setCell ⟨gn,3,J⟩ (aL A7 (n+1) c7)) gn B st now A7 (n+1) c7 (xs++L) gd gt gh ga gb from⟨N8,z8,XG⟩) (aw7.trans (aw8.mono fun k hk=> .inr hk)));clear N1 sB hb hrd sC hgr zE hA7 po N7 aw7 N8 aw8 z8;go_wp2_with fail;refine cC cM (fun h=>by cases h) ?_;refine PT ?_;iterate 2 refine Ord.K ?_
 refine Ord.X ?_;go_wp2;refine cC cM (fun h=>by cases h) ?_;refine PT ?_;refine cV ?_;clear c3 f3;go_wp2;refine dC (cT D _ _ _) D ?_;exact⟨D,⟨A7,c7,_,HY.out.1⟩,HY.out.2⟩
end
end Go.Proofs.YtfoabhdppkjmbaaGreat
