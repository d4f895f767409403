import Derived.Test.YtfoabhdppkjmbaaGreatKZ8
set_option linter.unusedSimpArgs false
set_option linter.unusedVariables false
set_option maxHeartbeats 4000000
set_option maxRecDepth 10000
namespace Go.Proofs.YtfoabhdppkjmbaaGreat
open Bool renaming false→aD,true→aF
open Go renaming Calls→aU,Ending→aX,Value→aT,World→aS
open Go.Ending renaming returned→aJ
open Go.IntKind renaming i64→Y
open Go.Obj renaming cells→aI
open Go.Proofs.Tryz renaming prog→bH
open Go.RowKit renaming Below→aV
open Go.Value renaming agg→aM,bool→aG,int→O,pointer→aK,string→aH,tuple→aN
open Option renaming none→J,some→aE
open Go.Proofs.Tryz
namespace NumLaw
end NumLaw
section
open Go.RowKit NumLaw
attribute [local go_sem] Addr.add_mid
abbrev vH:=@ntmps377
abbrev wL:=@func377
theorem mV{n lo hi:Int}(w:aS)(h:lo≤n∧n≤hi):aU bH 387 #[O Y n,O Y lo,O Y hi] w fun e w'=>e=aJ (aG aF)∧w=w':=by
 have:=Fz n lo hi w;rwa[dU h] at this
theorem zX{n lo hi:Int}(w:aS)(h: ¬(lo≤n∧n≤hi)):aU bH 387 #[O Y n,O Y lo,O Y hi] w fun e w'=>e=aJ (aG aD)∧w=w':=by
 have:=Fz n lo hi w;rwa[dN h] at this
theorem Xm(h m x c:Int)(w:aS):aU bH 377 #[aM #[aG aF,O Y h,O Y m,O Y x,O Y c]] w fun e w'=>e=aJ (aG (Bi h m x c))∧aV w.heap.size w w':=by
 have hb:aV w.heap.size w (w.alloc (aI #[aG aF,O Y h,O Y m,O Y x,O Y c] 67)):=(bP _ _).alloc (bM _) _;by_cases k0:0≤h∧h≤23
 case neg=>
  have hk:Bi h m x c=aD:=by unfold Bi;rw[dN k0];simp
  rw[hk];clear hk;have H:=bK (fun w=>zX w k0);clear k0;go_enter wL,vH;go_wp2_with fail;go_fit(H.out _);rintro e w1 ⟨rfl,rfl⟩;go_wp2;go_ret;exact⟨D,hb⟩
 by_cases k1:0≤m∧m≤59
 case neg=>
  have hk:Bi h m x c=aD:=by unfold Bi;rw[dN k1];simp
  rw[hk];clear hk;have H:=bK (fun w=>zX w k1);have H0:=bK (fun w=>mV w k0);clear k0 k1;go_enter wL,vH;go_wp2_with fail;go_fit(H0.out _);rintro e w1 ⟨rfl,rfl⟩;go_wp2_with fail;go_fit(H.out _);rintro e w1 ⟨rfl,rfl⟩;go_wp2;go_ret;exact⟨D,hb⟩
 by_cases k2:0≤x∧x≤59
 case neg=>
  have hk:Bi h m x c=aD:=by unfold Bi;rw[dN k2];simp
  rw[hk];clear hk;have H:=bK (fun w=>zX w k2);have H0:=bK (fun w=>mV w k0);have H1:=bK (fun w=>mV w k1);clear k0 k1 k2;go_enter wL,vH;go_wp2_with fail;go_fit(H0.out _);rintro e w1 ⟨rfl,rfl⟩;go_wp2_with fail;go_fit(H1.out _);rintro e w1 ⟨rfl,rfl⟩;go_wp2_with fail;go_fit(H.out _);rintro e w1 ⟨rfl,rfl⟩;go_wp2;go_ret;exact⟨D,hb⟩
 by_cases k3:0≤c∧c≤99
 case neg=>
  have hk:Bi h m x c=aD:=by unfold Bi;rw[dN k3];simp
  rw[hk];clear hk;have H:=bK (fun w=>zX w k3);have H0:=bK (fun w=>mV w k0);have H1:=bK (fun w=>mV w k1);have H2:=bK (fun w=>mV w k2);clear k0 k1 k2 k3;go_enter wL,vH;go_wp2_with fail;go_fit(H0.out _);rintro e w1 ⟨rfl,rfl⟩;go_wp2_with fail;go_fit(H1.out _);rintro e w1 ⟨rfl,rfl⟩;go_wp2_with fail;go_fit(H2.out _);rintro e w1 ⟨rfl,rfl⟩;go_wp2_with fail;go_fit(H.out _);rintro e w1 ⟨rfl,rfl⟩;go_wp2;go_ret;exact⟨D,hb⟩
 have hk:Bi h m x c=aF:=by unfold Bi;rw[dU k0,dU k1,dU k2,dU k3];rfl
 rw[hk];clear hk;have H0:=bK (fun w=>mV w k0);have H1:=bK (fun w=>mV w k1);have H2:=bK (fun w=>mV w k2);have H3:=bK (fun w=>mV w k3);clear k0 k1 k2 k3;go_enter wL,vH;go_wp2_with fail;go_fit(H0.out _);rintro e w1 ⟨rfl,rfl⟩;go_wp2_with fail;go_fit(H1.out _);rintro e w1 ⟨rfl,rfl⟩;go_wp2_with fail;go_fit(H2.out _);rintro e w1 ⟨rfl,rfl⟩;go_wp2_with fail;go_fit(H3.out _);rintro e w1 ⟨rfl,rfl⟩;go_wp2;go_ret;exact⟨D,hb⟩
theorem Mo(m y:Int)(hm:1≤m∧m≤13):0≤xO m y∧xO m y≤366:=by
 have:=Mn m hm;unfold xO;split
 ·split<;>omega
 ·omega
theorem GJ(m y:Int)(w:aS)(hm: -1000≤m∧m≤1000):aU bH 388 #[O Y m,O Y y] w fun e w'=>e=aJ (O Y (zQ m y))∧aV w.heap.size w w':=by
 obtain⟨Dh,uP⟩:=hm;by_cases k0:1≤m∧m≤12
 case neg=>
  have hd:zQ m y=0:=by unfold zQ;rw[bX];rintro⟨a,b,_⟩;exact k0 ⟨a,b⟩
  rw[hd];have H:=bK (fun w=>zX w k0);clear k0 hd;go_enter func388,ntmps388;go_wp2_with fail;go_fit(H.out _);rintro e w1 ⟨rfl,rfl⟩;go_wp2;go_ret;exact⟨D,bP _ _⟩
 by_cases k1:2000≤y∧y≤2099
 case neg=>
  have hd:zQ m y=0:=by unfold zQ;rw[bX];rintro⟨_,_,a,b⟩;exact k1 ⟨a,b⟩
  rw[hd];have H:=bK (fun w=>mV w k0);have H1:=bK (fun w=>zX w k1);clear k0 k1 hd;go_enter func388,ntmps388;go_wp2_with fail;go_fit(H.out _);rintro e w1 ⟨rfl,rfl⟩;go_wp2_with fail;go_fit(H1.out _);rintro e w1 ⟨rfl,rfl⟩;go_wp2;go_ret;exact⟨D,bP _ _⟩
 have hd:zQ m y=xO (m+1) y-xO m y:=by unfold zQ;rw[bY ⟨k0.1,k0.2,k1.1,k1.2⟩]
 rw[hd];have H:=bK (fun w=>mV w k0);have H1:=bK (fun w=>mV w k1);have H2:=bK (fun w=>L3 (m+1) y w (by omega) (by omega));have H3:=bK (fun w=>L3 m y w (by omega) (by omega));have b1:=Mo (m+1) y (by omega);have b2:=Mo m y (by omega);generalize xO (m+1) y=p at*;generalize xO m y=q at*;obtain⟨p0,p1⟩:=b1;obtain⟨q0,q1⟩:=b2;clear k0 k1 hd;go_enter func388,ntmps388;go_wp2_with fail;go_fit(H.out _);rintro e w1 ⟨rfl,rfl⟩;go_wp2_with fail;go_fit(H1.out _);rintro e w1 ⟨rfl,rfl⟩;go_wp2_with fail;go_fit(H2.out _);rintro e w1 ⟨rfl,hb1⟩;go_wp2_with fail;go_fit(H3.out _);rintro e w2 ⟨rfl,hb2⟩;have hb:=eI hb1 hb2;go_wp2;go_ret;exact⟨D,hb⟩
theorem R9(d m y:Int)(w:aS)(hm: -1000≤m∧m≤1000):aU bH 378 #[aM #[aG aF,O Y d,O Y m,O Y y]] w fun e w'=>e=aJ (aG (decide (1≤d∧d≤zQ m y)))∧aV w.heap.size w w':=by
 have hb:aV w.heap.size w (w.alloc (aI #[aG aF,O Y d,O Y m,O Y y] 73)):=(bP _ _).alloc (bM _) _;have hg:=bS w (aI #[aG aF,O Y d,O Y m,O Y y] 73);have H:=bK (fun w=>GJ m y w hm);generalize zQ m y=aA at*;have H1:=bK (fun w=>Fz d 1 aA w);generalize decide (1≤d∧d≤aA)=B at*;have HG:=bK hg;clear hg;go_enter func378,ntmps378;go_wp2_with fail;have hg:=HG.out;generalize(w.alloc (aI #[aG aF,O Y d,O Y m,O Y y] 73))=v at*;refine cQ (fun w'=>w'.heap[w.heap.size]?=aE (aI #[aG aF,O Y d,O Y m,O Y y] 73)) aD [] (by kernel_rfl) (by kernel_rfl) hg ?_;replace hg:v.drew.heap[w.heap.size]?=aE (aI #[aG aF,O Y d,O Y m,O Y y] 73):=hg;replace hb:aV w.heap.size w v.drew:=hb.drew;clear HG;generalize v.drew=v1 at*;refine Ord.K ?_;refine cR cO D (fun w' hS=>bL (i:=1) (v:=O Y d) (show w'.heap[w.heap.size]?=_ from hS) D) hg D (by kernel_rfl) ?_;refine PT ?_;refine Ord.K ?_;refine cR cO D (fun w' hS=>bL (i:=2) (v:=O Y m) (show w'.heap[w.heap.size]?=_ from hS) D) hg D (by kernel_rfl) ?_;refine PT ?_;refine Ord.K ?_;refine cR cO D (fun w' hS=>bL (i:=3) (v:=O Y y) (show w'.heap[w.heap.size]?=_ from hS) D) hg D (by kernel_rfl) ?_;refine PT ?_;refine Ord.X ?_;go_wp2_with fail;go_fit(H.out v1);rintro e v2 ⟨rfl,hb2⟩;have hg2:=bV hg hb2 (bT hg);go_wp2_with fail;refine cC hg2 (fun h=>by cases h) ?_;refine PT ?_;refine Ord.X ?_;go_wp2_with fail;go_fit(H1.out v2);rintro e v3 ⟨rfl,rfl⟩;go_wp2_with fail;refine cC hg2 (fun h=>by cases h) ?_;refine PT ?_;refine Ord.K ?_;refine cV ?_;replace hb:=eI hb hb2;clear hg hg2 hb2;go_wp2;go_ret;exact⟨D,hb⟩
abbrev fN:=@underlying67
abbrev jF:=@underlying73
theorem Oc{w:aS}{g e:Nat}{a b c d f:aT}(h:w.heap[g]?=aE (aI #[a,b,c,d,f] e))(x0 x1 x2 x3 x4:aT):
  (((((w.setCell ⟨g,0,J⟩ x0).setCell ⟨g,1,J⟩ x1).setCell ⟨g,2,J⟩ x2).setCell ⟨g,3,J⟩ x3).setCell ⟨g,4,J⟩ x4).heap[g]?=aE (aI #[x0,x1,x2,x3,x4] e)∧Aw (fun k=>k=g) w (((((w.setCell ⟨g,0,J⟩ x0).setCell ⟨g,1,J⟩ x1).setCell ⟨g,2,J⟩ x2).setCell ⟨g,3,J⟩ x3).setCell ⟨g,4,J⟩ x4):=
 ⟨cN (i:=4) (cN (i:=3) (cN (i:=2) (cN (i:=1) (cN (i:=0) h x0) x1) x2) x3) x4,(((((cY (fun k=>k=g) w).set (p:=⟨g,0,J⟩) x0 D).set (p:=⟨g,1,J⟩) x1 D).set (p:=⟨g,2,J⟩) x2 D).set (p:=⟨g,3,J⟩) x3 D).set (p:=⟨g,4,J⟩) x4 D⟩
theorem bu{w:aS}{g e:Nat}{a b c d:aT}(h:w.heap[g]?=aE (aI #[a,b,c,d] e))(x0 x1 x2 x3:aT):
  ((((w.setCell ⟨g,0,J⟩ x0).setCell ⟨g,1,J⟩ x1).setCell ⟨g,2,J⟩ x2).setCell ⟨g,3,J⟩ x3).heap[g]?=aE (aI #[x0,x1,x2,x3] e)∧Aw (fun k=>k=g) w ((((w.setCell ⟨g,0,J⟩ x0).setCell ⟨g,1,J⟩ x1).setCell ⟨g,2,J⟩ x2).setCell ⟨g,3,J⟩ x3):=
 ⟨cN (i:=3) (cN (i:=2) (cN (i:=1) (cN (i:=0) h x0) x1) x2) x3,((((cY (fun k=>k=g) w).set (p:=⟨g,0,J⟩) x0 D).set (p:=⟨g,1,J⟩) x1 D).set (p:=⟨g,2,J⟩) x2 D).set (p:=⟨g,3,J⟩) x3 D⟩
theorem Ju{a b:UInt8}(h:(kL a b).2=aF):0≤(kL a b).1∧(kL a b).1≤99:=by
 simp only[kL,dP,iP] at h ⊢;omega
theorem CL{l:List UInt8}{a b c:Int}(h:sR l=aE (a,b,c)):(0≤a∧a≤99)∧(0≤b∧b≤99)∧(0≤c∧c≤99):=by
 unfold sR at h;split at h
 ·split at h
  ·rename_i hh;obtain⟨h1,h2,h3⟩:=hh;injection h with h;injection h with e1 e2;injection e2 with e2 e3;subst e1 e2 e3;exact⟨Ju h1,Ju h2,Ju h3⟩
  ·cases h
 ·cases h
def Gt(w:aS)(q:List aT × Nat)(e:aX)(w':aS):Prop:=e=aJ (aN #[.agg q.1.toArray,O Y (q.2:Int)])∧aV w.heap.size w w'
theorem Jb(s:ByteArray)(hz:s.size≤1000000)(w:aS):aU bH 333 #[aH s] w (Gt w (mZ s)):=by
 have hb:aV w.heap.size w (w.alloc (aI #[aG aD,O Y 0,O Y 0,O Y 0,O Y 0] 67)):=(bP _ _).alloc (bM _) _;have hr:=bS w (aI #[aG aD,O Y 0,O Y 0,O Y 0,O Y 0] 67);have HR:=bK hr;have HB:=bK hb;clear hr hb;by_cases h0:s.size=0
 ·have hT:Hid (mZ s=(P2,0)):=bK (by unfold mZ;rw[bY h0]);have e0:s.toList= []:=by rw[dR];exact(lQ s).2 h0
  clear h0;go_enter func333,ntmps333;go_wp2;exact bR (cD D _ _ w.heap.size _ _ _ _ D HR.out fN D (by kernel_rfl)) D ⟨by rw[hT.out];rfl,HB.out⟩
 have hT:mZ s=(match sR ((sb s).take 6),qH ((sb s).drop 6) with
  |some (h,m,x),aE c=>if Bi h m x c=aF then(Jl aF h m x c,0) else(P2,5)
  |_,_=>(P2,3)):=by unfold mZ;rw[bX h0];rfl
 have e0:=pZ h0;obtain⟨o1,qe⟩: ∃o1,o1=sR ((sb s).take 6):=⟨_,D⟩;obtain⟨o2,qf⟩: ∃o2,o2=qH ((sb s).drop 6):=⟨_,D⟩;rw[←qe,←qf] at hT;have HT:=bK hT;clear hT h0;by_cases h6:6<s.size
 ·have i6:(6:Int)<(s.size:Int):=by omega
  have j6:min (s.size:Int) 6=6:=by omega
  have q1:sR (sb (s.extract 0 6))=o1:=by rw[qe,mY,iN]
  have q2:qH (sb (s.extract 6 s.size))=o2:=by rw[qf,y8]
  have H1:=bK (fun w=>Fh (s.extract 0 6) w (by rw[eH];omega));have H2:=bK (fun w=>Jo (s.extract 6 s.size) w (by rw[eH];omega));rw[q1] at H1;rw[q2] at H2;clear q1 q2 qe qf h6;go_enter func333,ntmps333;go_wp2_with fail;go_fit(H1.out _);rintro e v1 ⟨a1,b1,c1,qg,rfl,k1,l1,nB⟩;have hr:=bV HR.out nB (by simp only[cL];omega);have hb:=eI HB.out nB;clear nB;have nB:aV v1.heap.size v1 (v1.alloc (aI #[O Y a1,O Y b1,O Y c1] 130)):=(bP _ _).alloc (bM _) _;have hx:=bS v1 (aI #[O Y a1,O Y b1,O Y c1] 130);have HR1:=bK (bV hr nB (bT hr));have HB1:=bK (eI hb nB);have HX:=bK hx;have K1:=bK k1;have L1:=bK l1;have hlr:=bT hr;clear nB hx hr hb k1 l1;go_wp2_with fail;go_fit(H2.out _);rintro e v2 ⟨c2,ok2,rfl,k2,l2,nB⟩;have hr:=bV HR1.out nB (by simp only[cL];omega);have hx:=bV HX.out nB (by simp only[cL];omega);have hb:=eI HB1.out nB;have K2:=bK k2;have L2:=bK l2;clear nB HR1 HX HB1 k2 l2 HR HB H1 H2;have r0:=bL (i:=0) (v:=aG aD) hr D;have r1:=bL (i:=1) (v:=O Y 0) hr D;have r2:=bL (i:=2) (v:=O Y 0) hr D;have r3:=bL (i:=3) (v:=O Y 0) hr D;have r4:=bL (i:=4) (v:=O Y 0) hr D;have WV:=bZ (i:=0) hr;have WX:=bZ (i:=1) hr;have WY:=bZ (i:=2) hr;have WZ:=bZ (i:=3) hr;have qh:=bZ (i:=4) hr;have x0:=bL (i:=0) (v:=O Y a1) hx D;have x1:=bL (i:=1) (v:=O Y b1) hx D;have x2:=bL (i:=2) (v:=O Y c1) hx D
  cases qg with
  |false=>
   have hT2:mZ s=(P2,3):=by
    rw[HT.out]
    cases o1 with
    |none=>rfl
    |some p=>have:=K1.out;simp at this
   have HT2:=bK hT2;clear hT2;go_wp2;obtain⟨h2,ha2⟩:=Oc hr (aG aD) (O Y 0) (O Y 0) (O Y 0) (O Y 0);have hb9:=cJ hb ha2 (fun k hk=>by omega);generalize(((((v2.setCell ⟨w.heap.size,0,J⟩ (aG aD)).setCell ⟨w.heap.size,1,J⟩ (O Y 0)).setCell ⟨w.heap.size,2,J⟩ (O Y 0)).setCell ⟨w.heap.size,3,J⟩ (O Y 0)).setCell ⟨w.heap.size,4,J⟩ (O Y 0))=v9 at*;exact bR (cD D _ _ w.heap.size _ _ _ _ D h2 fN D (by kernel_rfl)) D ⟨by rw[HT2.out];rfl,hb9⟩
  |true=>
   obtain rfl:=L1.out D
   cases ok2 with
   |false=>
    have hT2:mZ s=(P2,3):=by
     rw[HT.out]
     cases o2 with
     |none=>rfl
     |some p=>have:=K2.out;simp at this
    have HT2:=bK hT2;clear hT2;go_wp2;obtain⟨h2,ha2⟩:=Oc hr (aG aD) (O Y 0) (O Y 0) (O Y 0) (O Y 0);have hb9:=cJ hb ha2 (fun k hk=>by omega);generalize(((((v2.setCell ⟨w.heap.size,0,J⟩ (aG aD)).setCell ⟨w.heap.size,1,J⟩ (O Y 0)).setCell ⟨w.heap.size,2,J⟩ (O Y 0)).setCell ⟨w.heap.size,3,J⟩ (O Y 0)).setCell ⟨w.heap.size,4,J⟩ (O Y 0))=v9 at*;exact bR (cD D _ _ w.heap.size _ _ _ _ D h2 fN D (by kernel_rfl)) D ⟨by rw[HT2.out];rfl,hb9⟩
   |true=>
    obtain rfl:=L2.out D;have HM:=bK (Xm a1 b1 c1 c2 (v2.alloc (aI #[aG aF,O Y a1,O Y b1,O Y c1,O Y c2] 67)));have nB:aV v2.heap.size v2 (v2.alloc (aI #[aG aF,O Y a1,O Y b1,O Y c1,O Y c2] 67)):=(bP _ _).alloc (bM _) _;have HY:=bK (bS v2 (aI #[aG aF,O Y a1,O Y b1,O Y c1,O Y c2] 67));have HR1:=bK (bV hr nB (bT hr));have HB1:=bK (eI hb nB);have hlx:=bT hx;have UC:=bT hr;clear nB;go_wp2_with fail;go_fit HM.out;rintro e v3 ⟨rfl,nB⟩;clear hr hb r0 r1 r2 r3 r4 WV WX WY WZ qh x0 x1 x2 hx;have hr:=bV HR1.out nB (by simp only[cL];omega);have hy:=bV HY.out nB (by simp only[cL];omega);have hb:=eI HB1.out nB;clear nB HR1 HY HB1 HM;have r0:=bL (i:=0) (v:=aG aD) hr D;have r1:=bL (i:=1) (v:=O Y 0) hr D;have r2:=bL (i:=2) (v:=O Y 0) hr D;have r3:=bL (i:=3) (v:=O Y 0) hr D;have r4:=bL (i:=4) (v:=O Y 0) hr D;have WV:=bZ (i:=0) hr;have WX:=bZ (i:=1) hr;have WY:=bZ (i:=2) hr;have WZ:=bZ (i:=3) hr;have qh:=bZ (i:=4) hr;have y0:=bL (i:=0) (v:=aG aF) hy D;have y1:=bL (i:=1) (v:=O Y a1) hy D;have y2:=bL (i:=2) (v:=O Y b1) hy D;have y3:=bL (i:=3) (v:=O Y c1) hy D;have y4:=bL (i:=4) (v:=O Y c2) hy D;have HT3:Hid (mZ s=if Bi a1 b1 c1 c2=aF then(Jl aF a1 b1 c1 c2,0) else(P2,5)):=bK HT.out;clear HT
    cases hok:Bi a1 b1 c1 c2 with
    |false=>
     rw[hok] at HT3;clear hok;go_wp2;obtain⟨h2,ha2⟩:=Oc hr (aG aD) (O Y 0) (O Y 0) (O Y 0) (O Y 0);have hb9:=cJ hb ha2 (fun k hk=>by omega);generalize(((((v3.setCell ⟨w.heap.size,0,J⟩ (aG aD)).setCell ⟨w.heap.size,1,J⟩ (O Y 0)).setCell ⟨w.heap.size,2,J⟩ (O Y 0)).setCell ⟨w.heap.size,3,J⟩ (O Y 0)).setCell ⟨w.heap.size,4,J⟩ (O Y 0))=v9 at*;exact bR (cD D _ _ w.heap.size _ _ _ _ D h2 fN D (by kernel_rfl)) D ⟨by rw[HT3.out];rfl,hb9⟩
    |true=>
     rw[hok] at HT3;clear hok;go_wp2;obtain⟨h2,ha2⟩:=Oc hr (aG aF) (O Y a1) (O Y b1) (O Y c1) (O Y c2);have hb9:=cJ hb ha2 (fun k hk=>by omega);generalize(((((v3.setCell ⟨w.heap.size,0,J⟩ (aG aF)).setCell ⟨w.heap.size,1,J⟩ (O Y a1)).setCell ⟨w.heap.size,2,J⟩ (O Y b1)).setCell ⟨w.heap.size,3,J⟩ (O Y c1)).setCell ⟨w.heap.size,4,J⟩ (O Y c2))=v9 at*;exact bR (cD D _ _ w.heap.size _ _ _ _ D h2 fN D (by kernel_rfl)) D ⟨by rw[HT3.out];rfl,hb9⟩
 ·have i6:(s.size:Int)≤6:=by omega
  have j6:min (s.size:Int) 6=(s.size:Int):=by omega
  have q1:sR (sb s)=o1:=by rw[qe,cH (by rw[iI];omega)]
  have q2:qH (sb ByteArray.empty)=o2:=by rw[qf,gF (by rw[iI];omega)];rfl
  have H1:=bK (fun w=>Fh s w (hz));have H2:=bK (fun w=>Jo ByteArray.empty w (by decide));rw[q1] at H1;rw[q2] at H2;clear q1 q2 qe qf h6;go_enter func333,ntmps333;go_wp2_with fail;go_fit(H1.out _);rintro e v1 ⟨a1,b1,c1,qg,rfl,k1,l1,nB⟩;have hr:=bV HR.out nB (by simp only[cL];omega);have hb:=eI HB.out nB;clear nB;have nB:aV v1.heap.size v1 (v1.alloc (aI #[O Y a1,O Y b1,O Y c1] 130)):=(bP _ _).alloc (bM _) _;have hx:=bS v1 (aI #[O Y a1,O Y b1,O Y c1] 130);have HR1:=bK (bV hr nB (bT hr));have HB1:=bK (eI hb nB);have HX:=bK hx;have K1:=bK k1;have L1:=bK l1;have hlr:=bT hr;clear nB hx hr hb k1 l1;go_wp2_with fail;go_fit(H2.out _);rintro e v2 ⟨c2,ok2,rfl,k2,l2,nB⟩;have hr:=bV HR1.out nB (by simp only[cL];omega);have hx:=bV HX.out nB (by simp only[cL];omega);have hb:=eI HB1.out nB;have K2:=bK k2;have L2:=bK l2;clear nB HR1 HX HB1 k2 l2 HR HB H1 H2;have r0:=bL (i:=0) (v:=aG aD) hr D;have r1:=bL (i:=1) (v:=O Y 0) hr D;have r2:=bL (i:=2) (v:=O Y 0) hr D;have r3:=bL (i:=3) (v:=O Y 0) hr D;have r4:=bL (i:=4) (v:=O Y 0) hr D;have WV:=bZ (i:=0) hr;have WX:=bZ (i:=1) hr;have WY:=bZ (i:=2) hr;have WZ:=bZ (i:=3) hr;have qh:=bZ (i:=4) hr;have x0:=bL (i:=0) (v:=O Y a1) hx D;have x1:=bL (i:=1) (v:=O Y b1) hx D;have x2:=bL (i:=2) (v:=O Y c1) hx D
  cases qg with
  |false=>
   have hT2:mZ s=(P2,3):=by
    rw[HT.out]
    cases o1 with
    |none=>rfl
    |some p=>have:=K1.out;simp at this
   have HT2:=bK hT2;clear hT2;go_wp2;obtain⟨h2,ha2⟩:=Oc hr (aG aD) (O Y 0) (O Y 0) (O Y 0) (O Y 0);have hb9:=cJ hb ha2 (fun k hk=>by omega);generalize(((((v2.setCell ⟨w.heap.size,0,J⟩ (aG aD)).setCell ⟨w.heap.size,1,J⟩ (O Y 0)).setCell ⟨w.heap.size,2,J⟩ (O Y 0)).setCell ⟨w.heap.size,3,J⟩ (O Y 0)).setCell ⟨w.heap.size,4,J⟩ (O Y 0))=v9 at*;exact bR (cD D _ _ w.heap.size _ _ _ _ D h2 fN D (by kernel_rfl)) D ⟨by rw[HT2.out];rfl,hb9⟩
  |true=>
   obtain rfl:=L1.out D
   cases ok2 with
   |false=>
    have hT2:mZ s=(P2,3):=by
     rw[HT.out]
     cases o2 with
     |none=>rfl
     |some p=>have:=K2.out;simp at this
    have HT2:=bK hT2;clear hT2;go_wp2;obtain⟨h2,ha2⟩:=Oc hr (aG aD) (O Y 0) (O Y 0) (O Y 0) (O Y 0);have hb9:=cJ hb ha2 (fun k hk=>by omega);generalize(((((v2.setCell ⟨w.heap.size,0,J⟩ (aG aD)).setCell ⟨w.heap.size,1,J⟩ (O Y 0)).setCell ⟨w.heap.size,2,J⟩ (O Y 0)).setCell ⟨w.heap.size,3,J⟩ (O Y 0)).setCell ⟨w.heap.size,4,J⟩ (O Y 0))=v9 at*;exact bR (cD D _ _ w.heap.size _ _ _ _ D h2 fN D (by kernel_rfl)) D ⟨by rw[HT2.out];rfl,hb9⟩
   |true=>
    obtain rfl:=L2.out D;have HM:=bK (Xm a1 b1 c1 c2 (v2.alloc (aI #[aG aF,O Y a1,O Y b1,O Y c1,O Y c2] 67)));have nB:aV v2.heap.size v2 (v2.alloc (aI #[aG aF,O Y a1,O Y b1,O Y c1,O Y c2] 67)):=(bP _ _).alloc (bM _) _;have HY:=bK (bS v2 (aI #[aG aF,O Y a1,O Y b1,O Y c1,O Y c2] 67));have HR1:=bK (bV hr nB (bT hr));have HB1:=bK (eI hb nB);have hlx:=bT hx;have UC:=bT hr;clear nB;go_wp2_with fail;go_fit HM.out;rintro e v3 ⟨rfl,nB⟩;clear hr hb r0 r1 r2 r3 r4 WV WX WY WZ qh x0 x1 x2 hx;have hr:=bV HR1.out nB (by simp only[cL];omega);have hy:=bV HY.out nB (by simp only[cL];omega);have hb:=eI HB1.out nB;clear nB HR1 HY HB1 HM;have r0:=bL (i:=0) (v:=aG aD) hr D;have r1:=bL (i:=1) (v:=O Y 0) hr D;have r2:=bL (i:=2) (v:=O Y 0) hr D;have r3:=bL (i:=3) (v:=O Y 0) hr D;have r4:=bL (i:=4) (v:=O Y 0) hr D;have WV:=bZ (i:=0) hr;have WX:=bZ (i:=1) hr;have WY:=bZ (i:=2) hr;have WZ:=bZ (i:=3) hr;have qh:=bZ (i:=4) hr;have y0:=bL (i:=0) (v:=aG aF) hy D;have y1:=bL (i:=1) (v:=O Y a1) hy D;have y2:=bL (i:=2) (v:=O Y b1) hy D;have y3:=bL (i:=3) (v:=O Y c1) hy D;have y4:=bL (i:=4) (v:=O Y c2) hy D;have HT3:Hid (mZ s=if Bi a1 b1 c1 c2=aF then(Jl aF a1 b1 c1 c2,0) else(P2,5)):=bK HT.out;clear HT
    cases hok:Bi a1 b1 c1 c2 with
    |false=>
     rw[hok] at HT3;clear hok;go_wp2;obtain⟨h2,ha2⟩:=Oc hr (aG aD) (O Y 0) (O Y 0) (O Y 0) (O Y 0);have hb9:=cJ hb ha2 (fun k hk=>by omega);generalize(((((v3.setCell ⟨w.heap.size,0,J⟩ (aG aD)).setCell ⟨w.heap.size,1,J⟩ (O Y 0)).setCell ⟨w.heap.size,2,J⟩ (O Y 0)).setCell ⟨w.heap.size,3,J⟩ (O Y 0)).setCell ⟨w.heap.size,4,J⟩ (O Y 0))=v9 at*;exact bR (cD D _ _ w.heap.size _ _ _ _ D h2 fN D (by kernel_rfl)) D ⟨by rw[HT3.out];rfl,hb9⟩
    |true=>
     rw[hok] at HT3;clear hok;go_wp2;obtain⟨h2,ha2⟩:=Oc hr (aG aF) (O Y a1) (O Y b1) (O Y c1) (O Y c2);have hb9:=cJ hb ha2 (fun k hk=>by omega);generalize(((((v3.setCell ⟨w.heap.size,0,J⟩ (aG aF)).setCell ⟨w.heap.size,1,J⟩ (O Y a1)).setCell ⟨w.heap.size,2,J⟩ (O Y b1)).setCell ⟨w.heap.size,3,J⟩ (O Y c1)).setCell ⟨w.heap.size,4,J⟩ (O Y c2))=v9 at*;exact bR (cD D _ _ w.heap.size _ _ _ _ D h2 fN D (by kernel_rfl)) D ⟨by rw[HT3.out];rfl,hb9⟩
theorem Vg(s:ByteArray)(hz:s.size≤1000000)(w:aS):aU bH 344 #[aH s] w (Gt w (rU s)):=by
 have hb:aV w.heap.size w (w.alloc (aI #[aG aD,O Y 0,O Y 0,O Y 0] 73)):=(bP _ _).alloc (bM _) _;have hr:=bS w (aI #[aG aD,O Y 0,O Y 0,O Y 0] 73);have HR:=bK hr;have HB:=bK hb;clear hr hb;by_cases h0:s.size=0
 ·have hT:Hid (rU s=(KO,0)):=bK (by unfold rU;rw[bY h0]);have e0:s.toList= []:=by rw[dR];exact(lQ s).2 h0
  clear h0;go_enter func344,ntmps344;go_wp2;exact bR (cD D _ _ w.heap.size _ _ _ _ D HR.out jF D (by kernel_rfl)) D ⟨by rw[hT.out];rfl,HB.out⟩
 have hT:rU s=(match sR (sb s) with
  |some (d,m,y)=>if 1≤d∧d≤zQ m (2000+y) then(P1 aF d m (2000+y),0) else(KO,5)
  |none=>(KO,3)):=by unfold rU;rw[bX h0];rfl
 have e0:=pZ h0;have H1:=bK (fun w=>Fh s w hz);have wC:=fun a b c=>CL (l:=sb s) (a:=a) (b:=b) (c:=c);generalize sR (sb s)=o1 at*;have HT:=bK hT;have HBD:=bK wC;clear hT h0 wC;go_enter func344,ntmps344;go_wp2_with fail;go_fit(H1.out _);rintro e v1 ⟨a1,b1,c1,qg,rfl,k1,l1,nB⟩;have hr:=bV HR.out nB (by simp only[cL];omega);have hb:=eI HB.out nB;have K1:=bK k1;have L1:=bK l1;clear nB k1 l1 HR HB H1;have hlr:=bT hr;have r0:=bL (i:=0) (v:=aG aD) hr D;have r1:=bL (i:=1) (v:=O Y 0) hr D;have r2:=bL (i:=2) (v:=O Y 0) hr D;have r3:=bL (i:=3) (v:=O Y 0) hr D;have WV:=bZ (i:=0) hr;have WX:=bZ (i:=1) hr;have WY:=bZ (i:=2) hr;have WZ:=bZ (i:=3) hr
 cases qg with
 |false=>
  have hT2:rU s=(KO,3):=by
   rw[HT.out]
   cases o1 with
   |none=>rfl
   |some p=>have:=K1.out;simp at this
  have HT2:=bK hT2;clear hT2;go_wp2;obtain⟨h2,ha2⟩:=bu hr (aG aD) (O Y 0) (O Y 0) (O Y 0);have hb9:=cJ hb ha2 (fun k hk=>by omega);generalize((((v1.setCell ⟨w.heap.size,0,J⟩ (aG aD)).setCell ⟨w.heap.size,1,J⟩ (O Y 0)).setCell ⟨w.heap.size,2,J⟩ (O Y 0)).setCell ⟨w.heap.size,3,J⟩ (O Y 0))=v9 at*;exact bR (cD D _ _ w.heap.size _ _ _ _ D ((heap_alloc_old v9 (aI #[O Y a1,O Y b1,O Y c1] 130) (h:=bT h2)).trans h2) jF D (by kernel_rfl)) D ⟨by rw[HT2.out];rfl,hb9.alloc hb9.size _⟩
 |true=>
  obtain rfl:=L1.out D;obtain⟨⟨a0,a9⟩,⟨m0,m9⟩,⟨y0,y9⟩⟩:=HBD.out a1 b1 c1 D;have hb1:aV v1.heap.size v1 (v1.alloc (aI #[O Y a1,O Y b1,O Y c1] 130)):=(bP _ _).alloc (bM _) _;have hb2:aV v1.heap.size v1 ((v1.alloc (aI #[O Y a1,O Y b1,O Y c1] 130)).alloc (aI #[aG aF,O Y a1,O Y b1,O Y (2000+c1)] 73)):=hb1.alloc (by simp) _;have HM:=bK (R9 a1 b1 (2000+c1) ((v1.alloc (aI #[O Y a1,O Y b1,O Y c1] 130)).alloc (aI #[aG aF,O Y a1,O Y b1,O Y (2000+c1)] 73)) (by omega));have HY:=bK (Ek v1 (aI #[O Y a1,O Y b1,O Y c1] 130) (aI #[aG aF,O Y a1,O Y b1,O Y (2000+c1)] 73));have HR1:=bK (bV hr hb2 (bT hr));have HB1:=bK (eI hb hb2);clear hb1 hb2;go_wp2_with fail;go_fit HM.out;rintro e v3 ⟨rfl,nB⟩;clear hr hb r0 r1 r2 r3 WV WX WY WZ;have hr:=bV HR1.out nB (by simp only[cL];omega);have hy:=bV HY.out nB (by simp only[cL];omega);have hb:=eI HB1.out nB;clear nB HR1 HY HB1 HM HBD;have r0:=bL (i:=0) (v:=aG aD) hr D;have r1:=bL (i:=1) (v:=O Y 0) hr D;have r2:=bL (i:=2) (v:=O Y 0) hr D;have r3:=bL (i:=3) (v:=O Y 0) hr D;have WV:=bZ (i:=0) hr;have WX:=bZ (i:=1) hr;have WY:=bZ (i:=2) hr;have WZ:=bZ (i:=3) hr;have y0':=bL (i:=0) (v:=aG aF) hy D;have y1':=bL (i:=1) (v:=O Y a1) hy D;have y2':=bL (i:=2) (v:=O Y b1) hy D;have y3':=bL (i:=3) (v:=O Y (2000+c1)) hy D;have HT3:Hid (rU s=if 1≤a1∧a1≤zQ b1 (2000+c1) then(P1 aF a1 b1 (2000+c1),0) else(KO,5)):=bK HT.out;clear HT;by_cases hok:1≤a1∧a1≤zQ b1 (2000+c1)
  ·have HT4:=bK (HT3.out.trans (bY hok));rw[dU hok];clear hok HT3;go_wp2;obtain⟨h2,ha2⟩:=bu hr (aG aF) (O Y a1) (O Y b1) (O Y (2000+c1));have hb9:=cJ hb ha2 (fun k hk=>by omega);generalize((((v3.setCell ⟨w.heap.size,0,J⟩ (aG aF)).setCell ⟨w.heap.size,1,J⟩ (O Y a1)).setCell ⟨w.heap.size,2,J⟩ (O Y b1)).setCell ⟨w.heap.size,3,J⟩ (O Y (2000+c1)))=v9 at*;exact bR (cD D _ _ w.heap.size _ _ _ _ D h2 jF D (by kernel_rfl)) D ⟨by rw[HT4.out];rfl,hb9⟩
  ·have HT4:=bK (HT3.out.trans (bX hok));rw[dN hok];clear hok HT3;go_wp2;obtain⟨h2,ha2⟩:=bu hr (aG aD) (O Y 0) (O Y 0) (O Y 0);have hb9:=cJ hb ha2 (fun k hk=>by omega);generalize((((v3.setCell ⟨w.heap.size,0,J⟩ (aG aD)).setCell ⟨w.heap.size,1,J⟩ (O Y 0)).setCell ⟨w.heap.size,2,J⟩ (O Y 0)).setCell ⟨w.heap.size,3,J⟩ (O Y 0))=v9 at*;exact bR (cD D _ _ w.heap.size _ _ _ _ D h2 jF D (by kernel_rfl)) D ⟨by rw[HT4.out];rfl,hb9⟩
theorem EyOk.dig{st:kY}(h:EyOk st)(a b:Int):EyOk (kD a b st).2:=by
 unfold kD;split
 ·exact(h.text.2).fail _
 ·split
  ·exact(h.text.2).fail _
  ·exact h.text.2
theorem EyOk.unit{st:kY}(h:EyOk st)(u:UInt8)(is:Bool):EyOk (qA u is st):=by
 unfold qA;split
 ·exact(h.text.2).fail _
 ·exact h.text.2
theorem EyOk.ck{st:kY}(h:EyOk st):EyOk (qQ st).2:=(h.text.2).fail _
theorem EyOk.dt{st:kY}(h:EyOk st):EyOk (uY st).2:=(h.text.2).fail _
theorem EyOk.ab{st:kY}(h:EyOk st)(a b:UInt8):EyOk (wJ a b st).2:=by
 unfold wJ;show EyOk (if _ then _ else _);split
 ·exact h.text.2
 ·exact(h.text.2).fail _
theorem EyOk.mode{st:kY}(h:EyOk st):EyOk (nZ st):=by
 unfold nZ;split
 ·exact h
 ·split
  ·exact h.text.2
  ·exact(h.text.2).fail _
theorem O6{s:ByteArray}(h:s.size≠1):Kx s=J:=by
 have hl:=iI s;unfold Kx;split
 ·rename_i e;rw[e] at hl;exact absurd hl.symm h
 ·rfl
theorem We{s:ByteArray}(h:s.size=1):sb s= [s[0]]:=by
 have e:=qF s 0 (by omega);rw[iN] at e;rw[e,gF (by rw[iI];omega)]
theorem Iq{s:ByteArray}(h:s.size=1):Kx s=if Jd s[0]=aF then aE (s[0].toNat-48) else J:=by
 unfold Kx;rw[We h]
theorem zT(s:ByteArray): ∃(b:Bool) (h m x c:Int),(mZ s).1=Jl b h m x c:=by
 unfold mZ;split
 ·exact⟨_,_,_,_,_,D⟩
 ·split
  ·split
   ·exact⟨_,_,_,_,_,D⟩
   ·exact⟨_,_,_,_,_,D⟩
  ·exact⟨_,_,_,_,_,D⟩
theorem Er(s:ByteArray): ∃(b:Bool) (d m y:Int),(rU s).1=P1 b d m y:=by
 unfold rU;split
 ·exact⟨_,_,_,_,D⟩
 ·split
  ·split
   ·exact⟨_,_,_,_,D⟩
   ·exact⟨_,_,_,_,D⟩
  ·exact⟨_,_,_,_,D⟩
theorem Ng(lo g:Nat)(st:kY)(w:aS)(h:EyB w lo g st)(hlo:lo≤g):
  aU bH 321 #[aM #[aK (aE ⟨g,0,J⟩)]] w (e8 w lo g (O Y (kD 0 8 st).1) (kD 0 8 st).2):=by
 have he:kD 0 8 st=match Kx (jA st).1 with
  |none=>(0,tP (jA st).2 3)
  |some n=>((n:Int),if(n:Int)<0∨8<(n:Int) then tP (jA st).2 5 else(jA st).2):=D
 have hX:=fun w h=>kA lo g st w h hlo;have hF:=fun k w h=>jL lo g k (jA st).2 w h hlo;obtain⟨s,hs⟩: ∃s,s=(jA st).1:=⟨_,D⟩;obtain⟨s2,hs2⟩: ∃s2,s2=(jA st).2:=⟨_,D⟩;rw[←hs,←hs2] at hX he;rw[←hs2] at hF;have HX:=bK hX;have HF:=bK hF;have HE:=bK he;have yN:=h.lt;have hb:aV w.heap.size w (w.alloc (aI #[aK (aE ⟨g,0,J⟩)] 521)):=(bP _ _).alloc (bM _) _;have hE:=h.below hb hlo;have hx:=bS w (aI #[aK (aE ⟨g,0,J⟩)] 521);have HX0:=bK hx;have ha:Aw (fun j=>j=g) w (w.alloc (aI #[aK (aE ⟨g,0,J⟩)] 521)):=fC hb _;clear hb hX hF hs hs2 he h hx;go_enter func321,ntmps321;go_wp2_with fail;go_fit(HX.out _ hE);rintro e v ⟨rfl,hE1,ha1⟩;have hx:=ha1.keep HX0.out (by omega);have x0:=bL (i:=0) (v:=aK (aE ⟨g,0,J⟩)) hx D;clear HX0 hx;replace ha:=ha.trans ha1;clear hE HX ha1;by_cases h1:s.size=1
 case neg=>
  have HR:=bK (show kD 0 8 st=(0,tP s2 3) by rw[HE.out,O6 h1]);have i1: ¬(s.size:Int)=1:=by omega
  clear HE h1;go_wp2_with fail;go_fit(HF.out 3 v hE1);rintro e v2 ⟨rfl,hE2,ha2⟩;have ha3:=ha.trans ha2;clear hE1 ha2 ha HF;clear x0;go_wp2;go_ret;exact⟨by rw[HR.out];rfl,by rw[HR.out];exact hE2,ha3⟩
 have hd:=Iq h1;have i1:(s.size:Int)=1:=by omega
 have i0:(0:Int)<(s.size:Int):=by omega
 have j0:0<s.size:=by omega
 by_cases P3:48≤s[0].toNat
 case neg=>
  have HR:=bK (show kD 0 8 st=(0,tP s2 3) by rw[HE.out,hd,bX (by simp[Jd];omega)]);have k1:(s[0].toNat:Int)<48:=by omega
  clear HE h1 hd P3;go_wp2_with fail;go_fit(HF.out 3 v hE1);rintro e v2 ⟨rfl,hE2,ha2⟩;have ha3:=ha.trans ha2;clear hE1 ha2 ha HF;clear x0;go_wp2;go_ret;exact⟨by rw[HR.out];rfl,by rw[HR.out];exact hE2,ha3⟩
 have k1: ¬(s[0].toNat:Int)<48:=by omega
 by_cases Y5:s[0].toNat≤57
 case neg=>
  have HR:=bK (show kD 0 8 st=(0,tP s2 3) by rw[HE.out,hd,bX (by simp[Jd];omega)]);have k2:(57:Int)<(s[0].toNat:Int):=by omega
  clear HE h1 hd P3 Y5;go_wp2_with fail;go_fit(HF.out 3 v hE1);rintro e v2 ⟨rfl,hE2,ha2⟩;have ha3:=ha.trans ha2;clear hE1 ha2 ha HF;clear x0;go_wp2;go_ret;exact⟨by rw[HR.out];rfl,by rw[HR.out];exact hE2,ha3⟩
 have k2: ¬(57:Int)<(s[0].toNat:Int):=by omega
 obtain⟨n,hn⟩: ∃n,n=s[0].toNat-48:=⟨_,D⟩;have hn9:(n:Int)≤9:=by omega
 have en:((s[0].toNat:Int)-48)% 256=(n:Int):=by omega
 have en2:(s[0].toNat:Int)-48=(n:Int):=by omega
 have hR:kD 0 8 st=((n:Int),if(n:Int)<0∨8<(n:Int) then tP s2 5 else s2):=by rw[HE.out,hd,bY (by simp[Jd];omega),←hn]
 have b8: ¬(n:Int)<0:=by omega
 by_cases Pg:8<(n:Int)
 ·have HR:=bK (show kD 0 8 st=((n:Int),tP s2 5) by rw[hR,bY (.inr Pg)]);clear HE h1 hd P3 Y5 hR hn b8;go_wp2_with fail;go_fit(HF.out 5 v hE1);rintro e v2 ⟨rfl,hE2,ha2⟩;have ha3:=ha.trans ha2;clear hE1 ha2 ha HF;clear x0;go_wp2;go_ret;exact⟨by rw[HR.out];rfl,by rw[HR.out];exact hE2,ha3⟩
 have HR:=bK (show kD 0 8 st=((n:Int),s2) by rw[hR,bX (fun h=>by rcases h with h|h;exact b8 h;exact Pg h)]);clear HE h1 hd P3 Y5 hR hn b8;clear HF;go_wp2;go_ret;exact⟨by rw[HR.out];rfl,by rw[HR.out];exact hE1,ha⟩
theorem Ux(lo g:Nat)(st:kY)(w:aS)(h:EyB w lo g st)(hlo:lo≤g):
  aU bH 350 #[aK (aE ⟨g,0,J⟩)] w (e8 w lo g (O Y (kD 1 3 st).1) (kD 1 3 st).2):=by
 have he:kD 1 3 st=match Kx (jA st).1 with
  |none=>(0,tP (jA st).2 3)
  |some n=>((n:Int),if(n:Int)<1∨3<(n:Int) then tP (jA st).2 5 else(jA st).2):=D
 have hX:=fun w h=>kA lo g st w h hlo;have hF:=fun k w h=>jL lo g k (jA st).2 w h hlo;obtain⟨s,hs⟩: ∃s,s=(jA st).1:=⟨_,D⟩;obtain⟨s2,hs2⟩: ∃s2,s2=(jA st).2:=⟨_,D⟩;rw[←hs,←hs2] at hX he;rw[←hs2] at hF;have HX:=bK hX;have HF:=bK hF;have HE:=bK he;have yN:=h.lt;have hE:=h;have ha:Aw (fun j=>j=g) w w:=cY _ _;clear hX hF hs hs2 he h;go_enter func350,ntmps350;go_wp2_with fail;go_fit(HX.out _ hE);rintro e v ⟨rfl,hE1,ha1⟩;replace ha:=ha.trans ha1;clear hE HX ha1;by_cases h1:s.size=1
 case neg=>
  have HR:=bK (show kD 1 3 st=(0,tP s2 3) by rw[HE.out,O6 h1]);have i1: ¬(s.size:Int)=1:=by omega
  clear HE h1;go_wp2_with fail;go_fit(HF.out 3 v hE1);rintro e v2 ⟨rfl,hE2,ha2⟩;have ha3:=ha.trans ha2;clear hE1 ha2 ha HF;go_wp2;go_ret;exact⟨by rw[HR.out];rfl,by rw[HR.out];exact hE2,ha3⟩
 have hd:=Iq h1;have i1:(s.size:Int)=1:=by omega
 have i0:(0:Int)<(s.size:Int):=by omega
 have j0:0<s.size:=by omega
 by_cases P3:48≤s[0].toNat
 case neg=>
  have HR:=bK (show kD 1 3 st=(0,tP s2 3) by rw[HE.out,hd,bX (by simp[Jd];omega)]);have k1:(s[0].toNat:Int)<48:=by omega
  clear HE h1 hd P3;go_wp2_with fail;go_fit(HF.out 3 v hE1);rintro e v2 ⟨rfl,hE2,ha2⟩;have ha3:=ha.trans ha2;clear hE1 ha2 ha HF;go_wp2;go_ret;exact⟨by rw[HR.out];rfl,by rw[HR.out];exact hE2,ha3⟩
 have k1: ¬(s[0].toNat:Int)<48:=by omega
 by_cases Y5:s[0].toNat≤57
 case neg=>
  have HR:=bK (show kD 1 3 st=(0,tP s2 3) by rw[HE.out,hd,bX (by simp[Jd];omega)]);have k2:(57:Int)<(s[0].toNat:Int):=by omega
  clear HE h1 hd P3 Y5;go_wp2_with fail;go_fit(HF.out 3 v hE1);rintro e v2 ⟨rfl,hE2,ha2⟩;have ha3:=ha.trans ha2;clear hE1 ha2 ha HF;go_wp2;go_ret;exact⟨by rw[HR.out];rfl,by rw[HR.out];exact hE2,ha3⟩
 have k2: ¬(57:Int)<(s[0].toNat:Int):=by omega
 obtain⟨n,hn⟩: ∃n,n=s[0].toNat-48:=⟨_,D⟩;have hn9:(n:Int)≤9:=by omega
 have en:((s[0].toNat:Int)-48)% 256=(n:Int):=by omega
 have en2:(s[0].toNat:Int)-48=(n:Int):=by omega
 have hR:kD 1 3 st=((n:Int),if(n:Int)<1∨3<(n:Int) then tP s2 5 else s2):=by rw[HE.out,hd,bY (by simp[Jd];omega),←hn]
 by_cases oU:(n:Int)<1
 ·have HR:=bK (show kD 1 3 st=((n:Int),tP s2 5) by rw[hR,bY (.inl oU)]);have k3:(s[0].toNat:Int)<49:=by omega
  clear HE h1 hd P3 Y5 hR hn oU;go_wp2_with fail;go_fit(HF.out 5 v hE1);rintro e v2 ⟨rfl,hE2,ha2⟩;have ha3:=ha.trans ha2;clear hE1 ha2 ha HF;go_wp2;go_ret;exact⟨by rw[HR.out];rfl,by rw[HR.out];exact hE2,ha3⟩
 have k3: ¬(s[0].toNat:Int)<49:=by omega
 by_cases Pg:3<(n:Int)
 ·have HR:=bK (show kD 1 3 st=((n:Int),tP s2 5) by rw[hR,bY (.inr Pg)]);have k4:(51:Int)<(s[0].toNat:Int):=by omega
  clear HE h1 hd P3 Y5 hR hn oU Pg;go_wp2_with fail;go_fit(HF.out 5 v hE1);rintro e v2 ⟨rfl,hE2,ha2⟩;have ha3:=ha.trans ha2;clear hE1 ha2 ha HF;go_wp2;go_ret;exact⟨by rw[HR.out];rfl,by rw[HR.out];exact hE2,ha3⟩
 have k4: ¬(51:Int)<(s[0].toNat:Int):=by omega
 have HR:=bK (show kD 1 3 st=((n:Int),s2) by rw[hR,bX (fun h=>by rcases h with h|h;exact oU h;exact Pg h)]);clear HE h1 hd P3 Y5 hR hn oU Pg;clear HF;go_wp2;go_ret;exact⟨by rw[HR.out];rfl,by rw[HR.out];exact hE1,ha⟩
theorem Cl(top:Int)(lo g:Nat)(st:kY)(w:aS)(h:EyB w lo g st)(hlo:lo≤g)(ht:0≤top∧top≤9):
  aU bH 359 #[aK (aE ⟨g,0,J⟩),O Y top] w (e8 w lo g (O Y (kD 1 top st).1) (kD 1 top st).2):=by
 have he:kD 1 top st=match Kx (jA st).1 with
  |none=>(0,tP (jA st).2 3)
  |some n=>((n:Int),if(n:Int)<1∨top<(n:Int) then tP (jA st).2 5 else(jA st).2):=D
 have hX:=fun w h=>kA lo g st w h hlo;have hF:=fun k w h=>jL lo g k (jA st).2 w h hlo;obtain⟨s,hs⟩: ∃s,s=(jA st).1:=⟨_,D⟩;obtain⟨s2,hs2⟩: ∃s2,s2=(jA st).2:=⟨_,D⟩;rw[←hs,←hs2] at hX he;rw[←hs2] at hF;have HX:=bK hX;have HF:=bK hF;have HE:=bK he;have yN:=h.lt;obtain⟨ht0,ht1⟩:=ht;have hE:=h;have ha:Aw (fun j=>j=g) w w:=cY _ _;clear hX hF hs hs2 he h;go_enter func359,ntmps359;go_wp2_with fail;go_fit(HX.out _ hE);rintro e v ⟨rfl,hE1,ha1⟩;replace ha:=ha.trans ha1;clear hE HX ha1;by_cases h1:s.size=1
 case neg=>
  have HR:=bK (show kD 1 top st=(0,tP s2 3) by rw[HE.out,O6 h1]);have i1: ¬(s.size:Int)=1:=by omega
  clear HE h1;go_wp2_with fail;go_fit(HF.out 3 v hE1);rintro e v2 ⟨rfl,hE2,ha2⟩;have ha3:=ha.trans ha2;clear hE1 ha2 ha HF;go_wp2;go_ret;exact⟨by rw[HR.out];rfl,by rw[HR.out];exact hE2,ha3⟩
 have hd:=Iq h1;have i1:(s.size:Int)=1:=by omega
 have i0:(0:Int)<(s.size:Int):=by omega
 have j0:0<s.size:=by omega
 by_cases P3:48≤s[0].toNat
 case neg=>
  have HR:=bK (show kD 1 top st=(0,tP s2 3) by rw[HE.out,hd,bX (by simp[Jd];omega)]);have k1:(s[0].toNat:Int)<48:=by omega
  clear HE h1 hd P3;go_wp2_with fail;go_fit(HF.out 3 v hE1);rintro e v2 ⟨rfl,hE2,ha2⟩;have ha3:=ha.trans ha2;clear hE1 ha2 ha HF;go_wp2;go_ret;exact⟨by rw[HR.out];rfl,by rw[HR.out];exact hE2,ha3⟩
 have k1: ¬(s[0].toNat:Int)<48:=by omega
 by_cases Y5:s[0].toNat≤57
 case neg=>
  have HR:=bK (show kD 1 top st=(0,tP s2 3) by rw[HE.out,hd,bX (by simp[Jd];omega)]);have k2:(57:Int)<(s[0].toNat:Int):=by omega
  clear HE h1 hd P3 Y5;go_wp2_with fail;go_fit(HF.out 3 v hE1);rintro e v2 ⟨rfl,hE2,ha2⟩;have ha3:=ha.trans ha2;clear hE1 ha2 ha HF;go_wp2;go_ret;exact⟨by rw[HR.out];rfl,by rw[HR.out];exact hE2,ha3⟩
 have k2: ¬(57:Int)<(s[0].toNat:Int):=by omega
 obtain⟨n,hn⟩: ∃n,n=s[0].toNat-48:=⟨_,D⟩;have hn9:(n:Int)≤9:=by omega
 have en:((s[0].toNat:Int)-48)% 256=(n:Int):=by omega
 have en2:(s[0].toNat:Int)-48=(n:Int):=by omega
 have hR:kD 1 top st=((n:Int),if(n:Int)<1∨top<(n:Int) then tP s2 5 else s2):=by rw[HE.out,hd,bY (by simp[Jd];omega),←hn]
 by_cases oU:(n:Int)<1
 ·have HR:=bK (show kD 1 top st=((n:Int),tP s2 5) by rw[hR,bY (.inl oU)]);clear HE h1 hd P3 Y5 hR hn;go_wp2_with fail;go_fit(HF.out 5 v hE1);rintro e v2 ⟨rfl,hE2,ha2⟩;have ha3:=ha.trans ha2;clear hE1 ha2 ha HF;go_wp2;go_ret;exact⟨by rw[HR.out];rfl,by rw[HR.out];exact hE2,ha3⟩
 by_cases Pg:top<(n:Int)
 ·have HR:=bK (show kD 1 top st=((n:Int),tP s2 5) by rw[hR,bY (.inr Pg)]);clear HE h1 hd P3 Y5 hR hn;go_wp2_with fail;go_fit(HF.out 5 v hE1);rintro e v2 ⟨rfl,hE2,ha2⟩;have ha3:=ha.trans ha2;clear hE1 ha2 ha HF;go_wp2;go_ret;exact⟨by rw[HR.out];rfl,by rw[HR.out];exact hE2,ha3⟩
 have HR:=bK (show kD 1 top st=((n:Int),s2) by rw[hR,bX (fun h=>by rcases h with h|h;exact oU h;exact Pg h)]);clear HE h1 hd P3 Y5 hR hn;clear HF;go_wp2;go_ret;exact⟨by rw[HR.out];rfl,by rw[HR.out];exact hE1,ha⟩
theorem Jg:uR yK:=⟨by decide,by decide,by decide,by decide,by decide,by decide,by decide⟩
theorem Eo:uR zR:=⟨by decide,by decide,by decide,by decide,by decide,by decide,by decide⟩
theorem PX:uR Zz:=⟨by decide,by decide,by decide,by decide,by decide,by decide,by decide⟩
theorem TN:uR BR:=⟨by decide,by decide,by decide,by decide,by decide,by decide,by decide⟩
theorem TS:uR Zv:=⟨by decide,by decide,by decide,by decide,by decide,by decide,by decide⟩
theorem ZI:uR ik:=⟨by decide,by decide,by decide,by decide,by decide,by decide,by decide⟩
theorem Nn:uR vX:=⟨by decide,by decide,by decide,by decide,by decide,by decide,by decide⟩
theorem Oh:uR vY:=⟨by decide,by decide,by decide,by decide,by decide,by decide,by decide⟩
theorem OX:uR K6:=⟨by decide,by decide,by decide,by decide,by decide,by decide,by decide⟩
theorem JS:uR BH:=⟨by decide,by decide,by decide,by decide,by decide,by decide,by decide⟩
theorem II:uR S0:=⟨by decide,by decide,by decide,by decide,by decide,by decide,by decide⟩
theorem GS:uR Rk:=⟨by decide,by decide,by decide,by decide,by decide,by decide,by decide⟩
theorem Oy(w:aS):aU bH 322 #[] w fun e w'=>e=aJ (aM (L6 yK).toArray)∧aV w.heap.size w w':=by
 go_enter func322,ntmps322;go_wp2;exact bR (dK D _ _ w.heap.size _ _ _ _ D (bS w (aI #[O Y 1,O Y 2,O Y 0,O Y 0,O Y 99] 527)) eQ D (by kernel_rfl)) D ⟨D,(bP _ _).alloc (bM _) _⟩
theorem N6(w:aS):aU bH 323 #[] w fun e w'=>e=aJ (aM (L6 zR).toArray)∧aV w.heap.size w w':=by
 go_enter func323,ntmps323;go_wp2;exact bR (dK D _ _ w.heap.size _ _ _ _ D (bS w (aI #[O Y 1,O Y 3,O Y 2,O Y 0,O Y 99999] 527)) eQ D (by kernel_rfl)) D ⟨D,(bP _ _).alloc (bM _) _⟩
theorem Rl(w:aS):aU bH 324 #[] w fun e w'=>e=aJ (aM (L6 Zz).toArray)∧aV w.heap.size w w':=by
 go_enter func324,ntmps324;go_wp2;exact bR (dK D _ _ w.heap.size _ _ _ _ D (bS w (aI #[O Y 1,O Y 6,O Y 1,O Y (-9999999),O Y 9999999] 527)) eQ D (by kernel_rfl)) D ⟨D,(bP _ _).alloc (bM _) _⟩
theorem Lf(w:aS):aU bH 326 #[] w fun e w'=>e=aJ (aM (L6 BR).toArray)∧aV w.heap.size w w':=by
 go_enter func326,ntmps326;go_wp2;exact bR (dK D _ _ w.heap.size _ _ _ _ D (bS w (aI #[O Y 1,O Y 4,O Y 1,O Y (-99999),O Y 99999] 527)) eQ D (by kernel_rfl)) D ⟨D,(bP _ _).alloc (bM _) _⟩
theorem Qr(w:aS):aU bH 327 #[] w fun e w'=>e=aJ (aM (L6 Zv).toArray)∧aV w.heap.size w w':=by
 go_enter func327,ntmps327;go_wp2;exact bR (dK D _ _ w.heap.size _ _ _ _ D (bS w (aI #[O Y 1,O Y 4,O Y 1,O Y 0,O Y 99999] 527)) eQ D (by kernel_rfl)) D ⟨D,(bP _ _).alloc (bM _) _⟩
theorem Vu(w:aS):aU bH 328 #[] w fun e w'=>e=aJ (aM (L6 ik).toArray)∧aV w.heap.size w w':=by
 go_enter func328,ntmps328;go_wp2;exact bR (dK D _ _ w.heap.size _ _ _ _ D (bS w (aI #[O Y 1,O Y 4,O Y 0,O Y 0,O Y 1023] 527)) eQ D (by kernel_rfl)) D ⟨D,(bP _ _).alloc (bM _) _⟩
theorem Kw(w:aS):aU bH 340 #[] w fun e w'=>e=aJ (aM (L6 vX).toArray)∧aV w.heap.size w w':=by
 go_enter func340,ntmps340;go_wp2;exact bR (dK D _ _ w.heap.size _ _ _ _ D (bS w (aI #[O Y 1,O Y 4,O Y 2,O Y 0,O Y 999999] 527)) eQ D (by kernel_rfl)) D ⟨D,(bP _ _).alloc (bM _) _⟩
theorem Jn(w:aS):aU bH 342 #[] w fun e w'=>e=aJ (aM (L6 vY).toArray)∧aV w.heap.size w w':=by
 go_enter func342,ntmps342;go_wp2;exact bR (dK D _ _ w.heap.size _ _ _ _ D (bS w (aI #[O Y 1,O Y 3,O Y 2,O Y 0,O Y 36000] 527)) eQ D (by kernel_rfl)) D ⟨D,(bP _ _).alloc (bM _) _⟩
theorem Dx(w:aS):aU bH 379 #[] w fun e w'=>e=aJ (aM (L6 K6).toArray)∧aV w.heap.size w w':=by
 go_enter func379,ntmps379;go_wp2;exact bR (dK D _ _ w.heap.size _ _ _ _ D (bS w (aI #[O Y 1,O Y 3,O Y 1,O Y 0,O Y 1800] 527)) eQ D (by kernel_rfl)) D ⟨D,(bP _ _).alloc (bM _) _⟩
theorem U1(w:aS):aU bH 351 #[] w fun e w'=>e=aJ (aM (L6 BH).toArray)∧aV w.heap.size w w':=by
 go_enter func351,ntmps351;go_wp2;exact bR (dK D _ _ w.heap.size _ _ _ _ D (bS w (aI #[O Y 1,O Y 3,O Y 0,O Y 1,O Y 255] 527)) eQ D (by kernel_rfl)) D ⟨D,(bP _ _).alloc (bM _) _⟩
theorem Bl(w:aS):aU bH 352 #[] w fun e w'=>e=aJ (aM (L6 zR).toArray)∧aV w.heap.size w w':=by
 go_enter func352,ntmps352;go_wp2;exact bR (dK D _ _ w.heap.size _ _ _ _ D (bS w (aI #[O Y 1,O Y 3,O Y 2,O Y 0,O Y 99999] 527)) eQ D (by kernel_rfl)) D ⟨D,(bP _ _).alloc (bM _) _⟩
theorem O5(w:aS):aU bH 360 #[] w fun e w'=>e=aJ (aM (L6 yK).toArray)∧aV w.heap.size w w':=by
 go_enter func360,ntmps360;go_wp2;exact bR (dK D _ _ w.heap.size _ _ _ _ D (bS w (aI #[O Y 1,O Y 2,O Y 0,O Y 0,O Y 99] 527)) eQ D (by kernel_rfl)) D ⟨D,(bP _ _).alloc (bM _) _⟩
theorem Ud(w:aS):aU bH 361 #[] w fun e w'=>e=aJ (aM (L6 BH).toArray)∧aV w.heap.size w w':=by
 go_enter func361,ntmps361;go_wp2;exact bR (dK D _ _ w.heap.size _ _ _ _ D (bS w (aI #[O Y 1,O Y 3,O Y 0,O Y 1,O Y 255] 527)) eQ D (by kernel_rfl)) D ⟨D,(bP _ _).alloc (bM _) _⟩
theorem Om(w:aS):aU bH 362 #[] w fun e w'=>e=aJ (aM (L6 S0).toArray)∧aV w.heap.size w w':=by
 go_enter func362,ntmps362;go_wp2;exact bR (dK D _ _ w.heap.size _ _ _ _ D (bS w (aI #[O Y 1,O Y 2,O Y 0,O Y 0,O Y 90] 527)) eQ D (by kernel_rfl)) D ⟨D,(bP _ _).alloc (bM _) _⟩
theorem Oi(w:aS):aU bH 363 #[] w fun e w'=>e=aJ (aM (L6 Rk).toArray)∧aV w.heap.size w w':=by
 go_enter func363,ntmps363;go_wp2;exact bR (dK D _ _ w.heap.size _ _ _ _ D (bS w (aI #[O Y 1,O Y 3,O Y 0,O Y 0,O Y 359] 527)) eQ D (by kernel_rfl)) D ⟨D,(bP _ _).alloc (bM _) _⟩
theorem Lh(w:aS):aU bH 364 #[] w fun e w'=>e=aJ (aM (L6 yK).toArray)∧aV w.heap.size w w':=by
 go_enter func364,ntmps364;go_wp2;exact bR (dK D _ _ w.heap.size _ _ _ _ D (bS w (aI #[O Y 1,O Y 2,O Y 0,O Y 0,O Y 99] 527)) eQ D (by kernel_rfl)) D ⟨D,(bP _ _).alloc (bM _) _⟩
theorem Gh(lo g:Nat)(st:kY)(is:Bool)(n:Int)(w:aS)(h:EyB w lo g st)(hlo:lo≤g):
  aU bH 325 #[aM #[aK (aE ⟨g,0,J⟩)],aM #[aG is,O Y n]] w (e8 w lo g (aN #[]) (qA 77 is st)):=by
 have hX:=fun w h=>kA lo g st w h hlo;have hF:=fun k w h=>jL lo g k (jA st).2 w h hlo;have he:qA 77 is st=if sb (jA st).1≠ [77]∧(is=aF∨(jA st).1.size≠0) then tP (jA st).2 3 else(jA st).2:=D;obtain⟨s,hs⟩: ∃s,s=(jA st).1:=⟨_,D⟩;obtain⟨s2,hs2⟩: ∃s2,s2=(jA st).2:=⟨_,D⟩;rw[←hs,←hs2] at hX he;rw[←hs2] at hF;have HX:=bK hX;have HF:=bK hF;have HE:=bK he;have yN:=h.lt;obtain⟨hx,hy,iJ,hb⟩:=yZ w (aI #[aK (aE ⟨g,0,J⟩)] 521) (aI #[aG is,O Y n] 69);have hE:=h.below hb hlo;have HX0:=bK hx;have HY0:=bK hy;have ha:Aw (fun j=>j=g) w ((w.alloc (aI #[aK (aE ⟨g,0,J⟩)] 521)).alloc (aI #[aG is,O Y n] 69)):=fC hb _;clear hb hX hF hs hs2 he h hx hy iJ;go_enter func325,ntmps325;go_wp2_with fail;go_fit(HX.out _ hE);rintro e v ⟨rfl,hE1,ha1⟩;have hx:=ha1.keep HX0.out (by omega);have hy:=ha1.keep HY0.out (by omega);have x0:=bL (i:=0) (v:=aK (aE ⟨g,0,J⟩)) hx D;have y0:=bL (i:=0) (v:=aG is) hy D;replace ha:=ha.trans ha1;clear hE HX ha1 HX0 HY0 hx hy;have hno: ∀(h:Hid (qA 77 is st=s2)),e8 w lo g (aN #[]) (qA 77 is st) (aJ (aN #[])) v:=fun h=>⟨D,by rw[h.out];exact hE1,ha⟩;have HNO:=bK hno;clear hno;by_cases h1:sb s= [77]
 ·have t1:s.toList= [77]:=tl_eq.2 h1;have HR:=bK (HE.out.trans (bX (fun h=>h.1 h1)));have HQ:=bK (HNO.out HR);clear HE h1 hE1 ha HF;go_wp2
  ((try simp only[Exit.inBlock,Exit.then]);refine dC (cT D _ _ _) D ?_)
  exact HQ.out
 have t1:(s.toList== [77])=aD:=lX h1
 cases is with
 |true=>
  have HR:=bK (HE.out.trans (bY ⟨h1,.inl D⟩));clear HE h1 HNO;go_wp2_with fail;go_fit(HF.out 3 v hE1);rintro e v2 ⟨rfl,hE2,ha2⟩;have ha3:=ha.trans ha2;clear hE1 ha2 ha HF;go_wp2
  ((try simp only[Exit.inBlock,Exit.then]);refine dC (cT D _ _ _) D ?_)
  exact⟨D,by rw[HR.out];exact hE2,ha3⟩
 |false=>
  by_cases h0:s.size=0
  ·have e0:s.toList= []:=by rw[dR];exact(lQ s).2 h0
   have HR:=bK (HE.out.trans (bX (fun h=>by rcases h.2 with h|h;cases h;exact h h0)));have HQ:=bK (HNO.out HR);clear HE h1 hE1 ha HF h0;go_wp2
   ((try simp only[Exit.inBlock,Exit.then]);refine dC (cT D _ _ _) D ?_)
   exact HQ.out
  ·have e0:=pZ h0;have HR:=bK (HE.out.trans (bY ⟨h1,.inr h0⟩));clear HE h1 HNO h0;go_wp2_with fail;go_fit(HF.out 3 v hE1);rintro e v2 ⟨rfl,hE2,ha2⟩;have ha3:=ha.trans ha2;clear hE1 ha2 ha HF;go_wp2
   ((try simp only[Exit.inBlock,Exit.then]);refine dC (cT D _ _ _) D ?_)
   exact⟨D,by rw[HR.out];exact hE2,ha3⟩
theorem R8(lo g:Nat)(st:kY)(w:aS)(h:EyB w lo g st)(hlo:lo≤g):
  aU bH 349 #[aK (aE ⟨g,0,J⟩)] w (e8 w lo g (aG (wJ 65 77 st).1) (wJ 65 77 st).2):=by
 have hX:=fun w h=>kA lo g st w h hlo;have hF:=fun k w h=>jL lo g k (jA st).2 w h hlo;have he:wJ 65 77 st=(sb (jA st).1== [65],if sb (jA st).1= [65]∨sb (jA st).1= [77] then(jA st).2 else tP (jA st).2 3):=D;obtain⟨s,hs⟩: ∃s,s=(jA st).1:=⟨_,D⟩;obtain⟨s2,hs2⟩: ∃s2,s2=(jA st).2:=⟨_,D⟩;rw[←hs,←hs2] at hX he;rw[←hs2] at hF;have HX:=bK hX;have HF:=bK hF;have HE:=bK he;have yN:=h.lt;clear hX hF hs hs2 he;go_enter func349,ntmps349;go_wp2_with fail;go_fit(HX.out _ h);rintro e v ⟨rfl,hE1,ha⟩;clear HX h;by_cases h1:sb s= [65]
 ·have t1:s.toList= [65]:=tl_eq.2 h1;have HR:Hid (wJ 65 77 st=(aF,s2)):=bK (by rw[HE.out,bY (.inl h1),h1];rfl);clear HE h1 HF;go_wp2;go_ret;exact⟨by rw[HR.out];rfl,by rw[HR.out];exact hE1,ha⟩
 have t1:(s.toList== [65])=aD:=lX h1
 have hb1:(sb s== [65])=aD:=by
  cases e:(sb s== [65])
  ·rfl
  ·exact absurd (by simpa using e) h1
 by_cases h2:sb s= [77]
 ·have t2:s.toList= [77]:=tl_eq.2 h2;have HR:Hid (wJ 65 77 st=(aD,s2)):=bK (by rw[HE.out,bY (.inr h2),hb1]);clear HE h1 h2 HF hb1;go_wp2;go_ret;exact⟨by rw[HR.out];rfl,by rw[HR.out];exact hE1,ha⟩
 have t2:(s.toList== [77])=aD:=lX h2;have HR:Hid (wJ 65 77 st=(aD,tP s2 3)):=bK (by rw[HE.out,bX (fun h=>by rcases h with h|h;exact h1 h;exact h2 h),hb1]);clear HE h1 h2 hb1;go_wp2_with fail;go_fit(HF.out 3 v hE1);rintro e v2 ⟨rfl,hE2,ha2⟩;have ha3:=ha.trans ha2;clear hE1 ha2 ha HF;go_wp2;go_ret;exact⟨by rw[HR.out];rfl,by rw[HR.out];exact hE2,ha3⟩
theorem Lb(lo g:Nat)(st:kY)(w:aS)(h:EyB w lo g st)(hlo:lo≤g):
  aU bH 336 #[aK (aE ⟨g,0,J⟩)] w (e8 w lo g (aG (wJ 65 86 st).1) (wJ 65 86 st).2):=by
 have hX:=fun w h=>kA lo g st w h hlo;have hF:=fun k w h=>jL lo g k (jA st).2 w h hlo;have he:wJ 65 86 st=(sb (jA st).1== [65],if sb (jA st).1= [65]∨sb (jA st).1= [86] then(jA st).2 else tP (jA st).2 3):=D;obtain⟨s,hs⟩: ∃s,s=(jA st).1:=⟨_,D⟩;obtain⟨s2,hs2⟩: ∃s2,s2=(jA st).2:=⟨_,D⟩;rw[←hs,←hs2] at hX he;rw[←hs2] at hF;have HX:=bK hX;have HF:=bK hF;have HE:=bK he;have yN:=h.lt;clear hX hF hs hs2 he;go_enter func336,ntmps336;go_wp2_with fail;go_fit(HX.out _ h);rintro e v ⟨rfl,hE1,ha⟩;clear HX h;by_cases h1:sb s= [65]
 ·have t1:s.toList= [65]:=tl_eq.2 h1;have HR:Hid (wJ 65 86 st=(aF,s2)):=bK (by rw[HE.out,bY (.inl h1),h1];rfl);clear HE h1 HF;go_wp2;go_ret;exact⟨by rw[HR.out];rfl,by rw[HR.out];exact hE1,ha⟩
 have t1:(s.toList== [65])=aD:=lX h1
 have hb1:(sb s== [65])=aD:=by
  cases e:(sb s== [65])
  ·rfl
  ·exact absurd (by simpa using e) h1
 by_cases h2:sb s= [86]
 ·have t2:s.toList= [86]:=tl_eq.2 h2;have HR:Hid (wJ 65 86 st=(aD,s2)):=bK (by rw[HE.out,bY (.inr h2),hb1]);clear HE h1 h2 HF hb1;go_wp2;go_ret;exact⟨by rw[HR.out];rfl,by rw[HR.out];exact hE1,ha⟩
 have t2:(s.toList== [86])=aD:=lX h2;have HR:Hid (wJ 65 86 st=(aD,tP s2 3)):=bK (by rw[HE.out,bX (fun h=>by rcases h with h|h;exact h1 h;exact h2 h),hb1]);clear HE h1 h2 hb1;go_wp2_with fail;go_fit(HF.out 3 v hE1);rintro e v2 ⟨rfl,hE2,ha2⟩;have ha3:=ha.trans ha2;clear hE1 ha2 ha HF;go_wp2;go_ret;exact⟨by rw[HR.out];rfl,by rw[HR.out];exact hE2,ha3⟩
theorem Qi(lo g:Nat)(st:kY)(w:aS)(h:EyB w lo g st)(hlo:lo≤g):
  aU bH 348 #[aK (aE ⟨g,0,J⟩)] w (e8 w lo g (aN #[]) (nZ st)):=by
 have hX:=fun w h=>kA lo g st w h hlo;have hF:=fun k w h=>jL lo g k (jA st).2 w h hlo;have he:nZ st=if st.2= [] then st else if Sk (sb (jA st).1)=aF then(jA st).2 else tP (jA st).2 3:=D;have HL:=bK (j9 lo g st w h);obtain⟨s,hs⟩: ∃s,s=(jA st).1:=⟨_,D⟩;obtain⟨s2,hs2⟩: ∃s2,s2=(jA st).2:=⟨_,D⟩;rw[←hs,←hs2] at hX he;rw[←hs2] at hF;have HX:=bK hX;have HF:=bK hF;have HE:=bK he;have yN:=h.lt;clear hX hF hs hs2 he;go_enter func348,ntmps348;go_wp2_with fail;go_fit HL.out;rintro e w1 ⟨rfl,rfl⟩;clear HL;by_cases hn:st.2= []
 ·have HR:=bK (HE.out.trans (bY hn));have hl:(st.2.length:Int)=0:=by rw[hn];rfl
  clear HE hn HF HX;go_wp2
  ((try simp only[Exit.inBlock,Exit.then]);refine bR (cT D _ _ _) D ?_)
  exact⟨D,by rw[HR.out];exact h,cY _ _⟩
 have HR:=bK (HE.out.trans (bX hn));have hl: ¬(st.2.length:Int)=0:=by intro e;exact hn (cU (by omega))
 clear HE hn;go_wp2_with fail;go_fit(HX.out _ h);rintro e v ⟨rfl,hE1,ha⟩;clear HX h;have HNO:=bK (fun(h:Hid (nZ st=s2))=>(show e8 w lo g (aN #[]) (nZ st) (aJ (aN #[])) v from⟨D,by rw[h.out];exact hE1,ha⟩));have hcl:=iI s;by_cases h0:s.size=0
 ·have e0:s.toList= []:=by rw[dR];exact(lQ s).2 h0
  have hz:(s.size:Int)=0:=by omega
  have WR: ¬(1:Int)<(s.size:Int):=by omega
  have HQ:=bK (HNO.out (bK (HR.out.trans (bY (by rw[(lQ s).2 h0];rfl)))));clear HR h0 HF hE1 ha hcl HNO;go_wp2
  ((try simp only[Exit.inBlock,Exit.then]);refine dC (cT D _ _ _) D ?_)
  exact HQ.out
 have e0:=pZ h0;by_cases h1:s.size=1
 case neg=>
  have WR:(1:Int)<(s.size:Int):=by omega
  have HR2:=bK (HR.out.trans (bX (by
   intro e;unfold Sk at e;split at e
   ·rename_i e2;rw[e2] at hcl;exact h0 hcl.symm
   ·rename_i c e2;rw[e2] at hcl;exact h1 hcl.symm
   ·cases e)))
  clear HR h0 h1 hcl HNO;go_wp2_with fail;go_fit(HF.out 3 v hE1);rintro e v2 ⟨rfl,hE2,ha2⟩;have ha3:=ha.trans ha2;clear hE1 ha2 ha HF;go_wp2
  ((try simp only[Exit.inBlock,Exit.then]);refine dC (cT D _ _ _) D ?_)
  exact⟨D,by rw[HR2.out];exact hE2,ha3⟩
 have WR: ¬(1:Int)<(s.size:Int):=by omega
 have i0:(0:Int)<(s.size:Int):=by omega
 have j0:0<s.size:=by omega
 have hs1:=We h1;have DJ:Sk (sb s)=WH s[0]:=by rw[hs1];rfl
 by_cases UG:65≤s[0].toNat
 case neg=>
  have k1:(s[0].toNat:Int)<65:=by omega
  have HR2:=bK (HR.out.trans (bX (by rw[DJ];simp[WH];omega)));clear HR h0 h1 hcl HNO hs1 DJ UG;go_wp2_with fail;go_fit(HF.out 3 v hE1);rintro e v2 ⟨rfl,hE2,ha2⟩;have ha3:=ha.trans ha2;clear hE1 ha2 ha HF;go_wp2
  ((try simp only[Exit.inBlock,Exit.then]);refine dC (cT D _ _ _) D ?_)
  exact⟨D,by rw[HR2.out];exact hE2,ha3⟩
 have k1: ¬(s[0].toNat:Int)<65:=by omega
 by_cases dy:s[0].toNat≤90
 case neg=>
  have k2:(90:Int)<(s[0].toNat:Int):=by omega
  have HR2:=bK (HR.out.trans (bX (by rw[DJ];simp[WH];omega)));clear HR h0 h1 hcl HNO hs1 DJ UG dy;go_wp2_with fail;go_fit(HF.out 3 v hE1);rintro e v2 ⟨rfl,hE2,ha2⟩;have ha3:=ha.trans ha2;clear hE1 ha2 ha HF;go_wp2
  ((try simp only[Exit.inBlock,Exit.then]);refine dC (cT D _ _ _) D ?_)
  exact⟨D,by rw[HR2.out];exact hE2,ha3⟩
 have k2: ¬(90:Int)<(s[0].toNat:Int):=by omega
 have HQ:=bK (HNO.out (bK (HR.out.trans (bY (by rw[DJ];simp[WH];omega)))));clear HR h0 h1 HF hE1 ha hcl HNO hs1 DJ UG dy;go_wp2
 ((try simp only[Exit.inBlock,Exit.then]);refine dC (cT D _ _ _) D ?_)
 exact HQ.out
end
end Go.Proofs.YtfoabhdppkjmbaaGreat
