import Derived.Test.YtfoabhdppkjmbaaGreatKZ13
set_option linter.unusedSimpArgs false
set_option linter.unusedVariables false
set_option maxHeartbeats 8000000
set_option maxRecDepth 10000
namespace Go.Proofs.YtfoabhdppkjmbaaGreat
open Bool renaming false→aD,true→aF
open Go renaming Addr→aW,Calls→aU,Ending→aX,Value→aT,World→aS,maxLen→bB
open Go.Ending renaming returned→aJ
open Go.IntKind renaming i64→Y,u32→aR
open Go.Obj renaming cells→aI
open Go.Proofs.Tryz renaming prog→bH
open Go.RowKit renaming Below→aV
open Go.Value renaming agg→aM,bool→aG,int→O,slice→aL,tuple→aN
open Option renaming none→J,some→aE
open Go.Proofs.Tryz
namespace NumLaw
end NumLaw
section
open Go.RowKit NumLaw
def P0:List eK:= [⟨1,aD,0,0⟩,⟨1,aD,0,7⟩,⟨2,aD,0,0⟩]
theorem km:FB P0:=by intro f hf;simp[P0] at hf;rcases hf with rfl|rfl|rfl<;>simp
def Vy(k:Int):Nat:=if k<0∨2147483647<k then 0 else if 5<k/268435456 then 0 else(k/268435456).toNat
def szT:List Nat:= [0,1,1,2,4,8]
def msT:List Nat:= [0,1,255,65535,4294967295,9223372036854775807]
def xS(k:Int):Nat:=szT.getD (Vy k) 0
def Wk(k:Int):Nat:=msT.getD (Vy k) 0
theorem ZO(k:Int):Vy k≤5:=by unfold Vy;split<;>(try split)<;>omega
theorem Iy(k:Int):Vy k=0∨Vy k=1∨Vy k=2∨Vy k=3∨Vy k=4∨Vy k=5:=by have:=ZO k;omega
theorem kf(k:Int):xS k≤8:=by unfold xS;rcases Iy k with h|h|h|h|h|h<;>rw[h]<;>decide
theorem lj(k:Int):Wk k≤9223372036854775807:=by unfold Wk;rcases Iy k with h|h|h|h|h|h<;>rw[h]<;>decide
def oQ:Nat→List UInt8→Nat × List (Int × Int)
 |0,r=>if r.length=0 then(0,[]) else(7,[])
 |m+1,r=>if r.length=0 then(0,[]) else if r.length<4 then(2,[]) else
   if xS (num (r.take 4))=0 then(6,[]) else if r.length<4+xS (num (r.take 4)) then(2,[]) else
   if Wk (num (r.take 4))<num ((r.drop 4).take (xS (num (r.take 4)))) then(5,[]) else
   ((oQ m ((r.drop 4).drop (xS (num (r.take 4))))).1,((num (r.take 4):Int),(num ((r.drop 4).take (xS (num (r.take 4)))):Int))::(oQ m ((r.drop 4).drop (xS (num (r.take 4))))).2)
def rR(b:List UInt8):Nat:=if b.length<4 then 2 else if jM P0 (b.take 4)=0 then(oQ 32 (b.drop 4)).1 else jM P0 (b.take 4)
def Bj(b:List UInt8):Int:=if rR b=0 then(uT P0 (b.take 4)).getD 1 0 else 0
def Cf(b:List UInt8):List (Int × Int):=if rR b=0 then(oQ 32 (b.drop 4)).2 else []
theorem AS(m:Nat)(r:List UInt8)(h:r.length=0):oQ m r=(0,[]):=by
 cases m<;>(unfold oQ;rw[bY h])
theorem Vk{m:Nat}{r:List UInt8}{k v:Int}{R:List UInt8}(hk:(num (r.take 4):Int)=k)(h4:4+xS k≤r.length)(hv:(num ((r.drop 4).take (xS k)):Int)=v)(hR:(r.drop 4).drop (xS k)=R)(h1:xS k≠0)(h3:v≤Wk k):
  oQ (m+1) r=((oQ m R).1,(k,v)::(oQ m R).2):=by
 subst hk hv hR;show(if _ then _ else _)=_;rw[bX (by omega),bX (by omega),bX h1,bX (by omega),bX (by omega)]
theorem ca{b:List UInt8}(h:jM P0 b=0): ∃t:Int,uT P0 b= [0,t,0]∧0≤t∧t≤7:=by
 obtain⟨h1,h2,h3⟩:=sU h;have hl:(uT P0 b).length=3:=h3;generalize uT P0 b=v at*
 match v,hl with
 | [a0,a1,a2],_=>
  have Bs:tI P0 [a0,a1,a2]=aF:=by
   unfold My at h1;split at h1
   ·split at h1
    ·assumption
    ·cases h1
   ·cases h1
  simp[tI,P0,Sz] at Bs;obtain⟨⟨p1,p2⟩,⟨p3,p4⟩,p5,p6⟩:=Bs;obtain rfl:a0=0:=by omega
  obtain rfl:a2=0:=by omega
  exact⟨a1,D,p3,p4⟩
theorem AQ{b:List UInt8}(h:rR b≠0):Bj b=0∧Cf b= []:=⟨by unfold Bj;rw[bX h],by unfold Cf;rw[bX h]⟩
end
section
open Go.RowKit NumLaw
attribute [local go_sem] Addr.add_mid
abbrev vI:=@ntmps289
abbrev wM:=@func289
theorem U4(w:aS):aU bH 289 #[O Y 28,O Y 3] w fun e w'=>e=aJ (aG aF)∧w=w':=by
 go_enter wM,vI;go_wp2;go_ret;exact⟨D,D⟩
theorem BW(w:aS):aU bH 290 #[O Y 3] w fun e w'=>e=aJ (O aR 7)∧w=w':=by
 go_enter func290,ntmps290;go_wp2;go_ret;exact⟨D,D⟩
theorem yz: ∀v:Fin 16,bits .and aR ((v.val:Nat):Int) 7=((v.val % 8:Nat):Int):=by decide+kernel
theorem IX(x:Nat)(hx:x<4294967296)(w:aS):aU bH 471 #[O aR x,O Y 28,O Y 3] w fun e w'=>e=aJ (O aR ((x/268435456 % 8:Nat):Int))∧aV w.heap.size w w':=by
 have ha:=yz ⟨x/268435456,by omega⟩;simp only at ha
 have hsh: ∀w,(binOp .shr 46 (O aR (x:Int)) (O Y 28)).run bH w= .ok (O aR ((x/268435456:Nat):Int)) w:=by
  intro w;show(Op.shift .shr aR (x:Int) Y 28).run bH w=_;rw[shift_shr _ _ _ _ (by omega) (by decide)];have:(x:Int)/2 ^(28:Int).toNat=((x/268435456:Nat):Int):=by rw[show(28:Int).toNat=28 from D];omega
  rw[this];rfl
 have Ha:=bK ha;clear ha hx;have hb:aV w.heap.size w w.drew:=(bP _ _).drew;go_enter func471,ntmps471;go_wp2_with fail;go_fit(U4 w);rintro e w1 ⟨rfl,rfl⟩;go_wp2_with fail;refine cQ (fun _=>True) aD [] (by kernel_rfl) (by kernel_rfl) cM ?_;generalize w.drew=w1 at*;iterate 4 refine Ord.K ?_
 refine Ord.X ?_;go_wp2_with fail;go_fit(BW w1);rintro e w2 ⟨rfl,rfl⟩;go_wp2_with fail;refine cC cM (fun h=>by cases h) ?_;refine PT ?_;refine Ord.K ?_;refine Ord.K ?_;refine cV ?_;go_wp2;go_ret;exact⟨by rw[←Ha.out,show((x/268435456:Nat):Int)=(x:Int)/268435456 by omega];rfl,hb⟩
def btT:List Nat:= [0,1,8,16,32,63]
def Dj(k:Int):Nat:=btT.getD (Vy k) 0
theorem Ib{k:Int}(h:k<0∨2147483647<k):Vy k=0:=by unfold Vy;rw[bY h]
theorem PF{k:Int}(d:Nat)(h:0≤k∧k≤2147483647)(hd:k.toNat/268435456 % 8=d):Vy k=if 5<d then 0 else d:=by
 unfold Vy;rw[bX (by omega)];subst hd;split<;>split<;>omega
theorem Qh(k:Int)(w:aS):aU bH 470 #[O Y k] w fun e w'=>e=aJ (aN #[O Y (Dj k:Int),O Y (xS k:Int)])∧aV w.heap.size w w':=by
 have hb0:aV w.heap.size w w:=bP _ _;by_cases h1:k<0
 ·have e1:Dj k=0:=by unfold Dj;rw[Ib (.inl h1)];rfl
  have e2:xS k=0:=by unfold xS;rw[Ib (.inl h1)];rfl
  rw[e1,e2];clear e1 e2;go_enter func470,ntmps470;go_wp2;go_ret2;exact⟨D,hb0⟩
 by_cases h2:2147483647<k
 ·have e1:Dj k=0:=by unfold Dj;rw[Ib (.inr h2)];rfl
  have e2:xS k=0:=by unfold xS;rw[Ib (.inr h2)];rfl
  rw[e1,e2];clear e1 e2;go_enter func470,ntmps470;go_wp2;go_ret2;exact⟨D,hb0⟩
 obtain⟨x,rfl⟩: ∃x:Nat,k=x:=⟨k.toNat,by omega⟩;have hg:=IX x (by omega);obtain⟨d,hd⟩: ∃d,d=x/268435456 % 8:=⟨_,D⟩;have hk:=PF (k:=(x:Int)) d (by omega) (by rw[qP,hd]);have hd8:d<8:=by omega
 rw[←hd] at hg;clear hd;have hw:IntKind.u32.wrap (x:Int)=x:=by simp[IntKind.wrap,IntKind.bits,IntKind.signed];omega
 have gU:=bS w (aI #[O Y 0,O Y 0,O Y 1,O Y 1,O Y 8,O Y 1,O Y 16,O Y 2,O Y 32,O Y 4,O Y 63,O Y 8,O Y 0,O Y 0,O Y 0,O Y 0] 638);have hb1:aV w.heap.size w (w.alloc (aI #[O Y 0,O Y 0,O Y 1,O Y 1,O Y 8,O Y 1,O Y 16,O Y 2,O Y 32,O Y 4,O Y 63,O Y 8,O Y 0,O Y 0,O Y 0,O Y 0] 638)):=hb0.alloc (bM _) _;have Hk:=bK hk;clear hk;go_enter func470,ntmps470;go_wp2_with fail;go_fit(hg _);rintro e w2 ⟨rfl,hb12⟩;have hb2:=eI hb1 hb12;replace gU:=bV gU hb12 (bT gU);clear hb1 hb12 hg hw;rcases(by omega:d=0∨d=1∨d=2∨d=3∨d=4∨d=5∨d=6∨d=7) with rfl|rfl|rfl|rfl|rfl|rfl|rfl|rfl
 ·have c0:w2.cell? ⟨w.heap.size,0,J⟩=aE (O Y 0):=bL gU D;have c1:w2.cell? ⟨w.heap.size,1,J⟩=aE (O Y 0):=bL gU D;have e1:Dj (x:Int)=0:=by unfold Dj;rw[Hk.out];rfl
  have e2:xS (x:Int)=0:=by unfold xS;rw[Hk.out];rfl
  have E1:=bK e1;have E2:=bK e2;have yM:=bS w2 (aI #[O Y 0,O Y 0] 396);have hb3:=hb2.alloc hb2.size (aI #[O Y 0,O Y 0] 396);clear e1 e2 gU Hk;go_wp2_with fail;generalize(w2.alloc (aI #[O Y 0,O Y 0] 396))=w3 at*;generalize w2.heap.size=gk at*;clear c0 c1;have d0:w3.drew.cell? ⟨gk,0,J⟩=aE (O Y 0):=bL (w:=w3.drew) yM D;have d1:w3.drew.cell? ⟨gk,1,J⟩=aE (O Y 0):=bL (w:=w3.drew) yM D;have hb4:=hb3.drew;refine cQ (fun w'=>w'.cell? ⟨gk,0,J⟩=aE (O Y 0)∧w'.cell? ⟨gk,1,J⟩=aE (O Y 0)) aD [] (by kernel_rfl) (by kernel_rfl) ⟨d0,d1⟩ ?_;refine Ord.K ?_;refine cR dB D (fun w' hS=>(show w'.cell? ⟨gk,0,J⟩=aE (O Y 0)∧_ from hS).1) ⟨d0,d1⟩ D (by kernel_rfl) ?_;refine PT ?_;refine Ord.K ?_;refine cR dB D (fun w' hS=>(show _∧w'.cell? ⟨gk,1,J⟩=aE (O Y 0) from hS).2) ⟨d0,d1⟩ D (by kernel_rfl) ?_;refine PT ?_;refine Ord.K ?_;refine Ord.K ?_;refine cV ?_;go_wp2;go_ret2;exact⟨by rw[E1.out,E2.out];rfl,hb4⟩
 ·have c0:w2.cell? ⟨w.heap.size,2,J⟩=aE (O Y 1):=bL gU D;have c1:w2.cell? ⟨w.heap.size,3,J⟩=aE (O Y 1):=bL gU D;have e1:Dj (x:Int)=1:=by unfold Dj;rw[Hk.out];rfl
  have e2:xS (x:Int)=1:=by unfold xS;rw[Hk.out];rfl
  have E1:=bK e1;have E2:=bK e2;have yM:=bS w2 (aI #[O Y 1,O Y 1] 396);have hb3:=hb2.alloc hb2.size (aI #[O Y 1,O Y 1] 396);clear e1 e2 gU Hk;go_wp2_with fail;generalize(w2.alloc (aI #[O Y 1,O Y 1] 396))=w3 at*;generalize w2.heap.size=gk at*;clear c0 c1;have d0:w3.drew.cell? ⟨gk,0,J⟩=aE (O Y 1):=bL (w:=w3.drew) yM D;have d1:w3.drew.cell? ⟨gk,1,J⟩=aE (O Y 1):=bL (w:=w3.drew) yM D;have hb4:=hb3.drew;refine cQ (fun w'=>w'.cell? ⟨gk,0,J⟩=aE (O Y 1)∧w'.cell? ⟨gk,1,J⟩=aE (O Y 1)) aD [] (by kernel_rfl) (by kernel_rfl) ⟨d0,d1⟩ ?_;refine Ord.K ?_;refine cR dB D (fun w' hS=>(show w'.cell? ⟨gk,0,J⟩=aE (O Y 1)∧_ from hS).1) ⟨d0,d1⟩ D (by kernel_rfl) ?_;refine PT ?_;refine Ord.K ?_;refine cR dB D (fun w' hS=>(show _∧w'.cell? ⟨gk,1,J⟩=aE (O Y 1) from hS).2) ⟨d0,d1⟩ D (by kernel_rfl) ?_;refine PT ?_;refine Ord.K ?_;refine Ord.K ?_;refine cV ?_;go_wp2;go_ret2;exact⟨by rw[E1.out,E2.out];rfl,hb4⟩
 ·have c0:w2.cell? ⟨w.heap.size,4,J⟩=aE (O Y 8):=bL gU D;have c1:w2.cell? ⟨w.heap.size,5,J⟩=aE (O Y 1):=bL gU D;have e1:Dj (x:Int)=8:=by unfold Dj;rw[Hk.out];rfl
  have e2:xS (x:Int)=1:=by unfold xS;rw[Hk.out];rfl
  have E1:=bK e1;have E2:=bK e2;have yM:=bS w2 (aI #[O Y 8,O Y 1] 396);have hb3:=hb2.alloc hb2.size (aI #[O Y 8,O Y 1] 396);clear e1 e2 gU Hk;go_wp2_with fail;generalize(w2.alloc (aI #[O Y 8,O Y 1] 396))=w3 at*;generalize w2.heap.size=gk at*;clear c0 c1;have d0:w3.drew.cell? ⟨gk,0,J⟩=aE (O Y 8):=bL (w:=w3.drew) yM D;have d1:w3.drew.cell? ⟨gk,1,J⟩=aE (O Y 1):=bL (w:=w3.drew) yM D;have hb4:=hb3.drew;refine cQ (fun w'=>w'.cell? ⟨gk,0,J⟩=aE (O Y 8)∧w'.cell? ⟨gk,1,J⟩=aE (O Y 1)) aD [] (by kernel_rfl) (by kernel_rfl) ⟨d0,d1⟩ ?_;refine Ord.K ?_;refine cR dB D (fun w' hS=>(show w'.cell? ⟨gk,0,J⟩=aE (O Y 8)∧_ from hS).1) ⟨d0,d1⟩ D (by kernel_rfl) ?_;refine PT ?_;refine Ord.K ?_;refine cR dB D (fun w' hS=>(show _∧w'.cell? ⟨gk,1,J⟩=aE (O Y 1) from hS).2) ⟨d0,d1⟩ D (by kernel_rfl) ?_;refine PT ?_;refine Ord.K ?_;refine Ord.K ?_;refine cV ?_;go_wp2;go_ret2;exact⟨by rw[E1.out,E2.out];rfl,hb4⟩
 ·have c0:w2.cell? ⟨w.heap.size,6,J⟩=aE (O Y 16):=bL gU D;have c1:w2.cell? ⟨w.heap.size,7,J⟩=aE (O Y 2):=bL gU D;have e1:Dj (x:Int)=16:=by unfold Dj;rw[Hk.out];rfl
  have e2:xS (x:Int)=2:=by unfold xS;rw[Hk.out];rfl
  have E1:=bK e1;have E2:=bK e2;have yM:=bS w2 (aI #[O Y 16,O Y 2] 396);have hb3:=hb2.alloc hb2.size (aI #[O Y 16,O Y 2] 396);clear e1 e2 gU Hk;go_wp2_with fail;generalize(w2.alloc (aI #[O Y 16,O Y 2] 396))=w3 at*;generalize w2.heap.size=gk at*;clear c0 c1;have d0:w3.drew.cell? ⟨gk,0,J⟩=aE (O Y 16):=bL (w:=w3.drew) yM D;have d1:w3.drew.cell? ⟨gk,1,J⟩=aE (O Y 2):=bL (w:=w3.drew) yM D;have hb4:=hb3.drew;refine cQ (fun w'=>w'.cell? ⟨gk,0,J⟩=aE (O Y 16)∧w'.cell? ⟨gk,1,J⟩=aE (O Y 2)) aD [] (by kernel_rfl) (by kernel_rfl) ⟨d0,d1⟩ ?_;refine Ord.K ?_;refine cR dB D (fun w' hS=>(show w'.cell? ⟨gk,0,J⟩=aE (O Y 16)∧_ from hS).1) ⟨d0,d1⟩ D (by kernel_rfl) ?_;refine PT ?_;refine Ord.K ?_;refine cR dB D (fun w' hS=>(show _∧w'.cell? ⟨gk,1,J⟩=aE (O Y 2) from hS).2) ⟨d0,d1⟩ D (by kernel_rfl) ?_;refine PT ?_;refine Ord.K ?_;refine Ord.K ?_;refine cV ?_;go_wp2;go_ret2;exact⟨by rw[E1.out,E2.out];rfl,hb4⟩
 ·have c0:w2.cell? ⟨w.heap.size,8,J⟩=aE (O Y 32):=bL gU D;have c1:w2.cell? ⟨w.heap.size,9,J⟩=aE (O Y 4):=bL gU D;have e1:Dj (x:Int)=32:=by unfold Dj;rw[Hk.out];rfl
  have e2:xS (x:Int)=4:=by unfold xS;rw[Hk.out];rfl
  have E1:=bK e1;have E2:=bK e2;have yM:=bS w2 (aI #[O Y 32,O Y 4] 396);have hb3:=hb2.alloc hb2.size (aI #[O Y 32,O Y 4] 396);clear e1 e2 gU Hk;go_wp2_with fail;generalize(w2.alloc (aI #[O Y 32,O Y 4] 396))=w3 at*;generalize w2.heap.size=gk at*;clear c0 c1;have d0:w3.drew.cell? ⟨gk,0,J⟩=aE (O Y 32):=bL (w:=w3.drew) yM D;have d1:w3.drew.cell? ⟨gk,1,J⟩=aE (O Y 4):=bL (w:=w3.drew) yM D;have hb4:=hb3.drew;refine cQ (fun w'=>w'.cell? ⟨gk,0,J⟩=aE (O Y 32)∧w'.cell? ⟨gk,1,J⟩=aE (O Y 4)) aD [] (by kernel_rfl) (by kernel_rfl) ⟨d0,d1⟩ ?_;refine Ord.K ?_;refine cR dB D (fun w' hS=>(show w'.cell? ⟨gk,0,J⟩=aE (O Y 32)∧_ from hS).1) ⟨d0,d1⟩ D (by kernel_rfl) ?_;refine PT ?_;refine Ord.K ?_;refine cR dB D (fun w' hS=>(show _∧w'.cell? ⟨gk,1,J⟩=aE (O Y 4) from hS).2) ⟨d0,d1⟩ D (by kernel_rfl) ?_;refine PT ?_;refine Ord.K ?_;refine Ord.K ?_;refine cV ?_;go_wp2;go_ret2;exact⟨by rw[E1.out,E2.out];rfl,hb4⟩
 ·have c0:w2.cell? ⟨w.heap.size,10,J⟩=aE (O Y 63):=bL gU D;have c1:w2.cell? ⟨w.heap.size,11,J⟩=aE (O Y 8):=bL gU D;have e1:Dj (x:Int)=63:=by unfold Dj;rw[Hk.out];rfl
  have e2:xS (x:Int)=8:=by unfold xS;rw[Hk.out];rfl
  have E1:=bK e1;have E2:=bK e2;have yM:=bS w2 (aI #[O Y 63,O Y 8] 396);have hb3:=hb2.alloc hb2.size (aI #[O Y 63,O Y 8] 396);clear e1 e2 gU Hk;go_wp2_with fail;generalize(w2.alloc (aI #[O Y 63,O Y 8] 396))=w3 at*;generalize w2.heap.size=gk at*;clear c0 c1;have d0:w3.drew.cell? ⟨gk,0,J⟩=aE (O Y 63):=bL (w:=w3.drew) yM D;have d1:w3.drew.cell? ⟨gk,1,J⟩=aE (O Y 8):=bL (w:=w3.drew) yM D;have hb4:=hb3.drew;refine cQ (fun w'=>w'.cell? ⟨gk,0,J⟩=aE (O Y 63)∧w'.cell? ⟨gk,1,J⟩=aE (O Y 8)) aD [] (by kernel_rfl) (by kernel_rfl) ⟨d0,d1⟩ ?_;refine Ord.K ?_;refine cR dB D (fun w' hS=>(show w'.cell? ⟨gk,0,J⟩=aE (O Y 63)∧_ from hS).1) ⟨d0,d1⟩ D (by kernel_rfl) ?_;refine PT ?_;refine Ord.K ?_;refine cR dB D (fun w' hS=>(show _∧w'.cell? ⟨gk,1,J⟩=aE (O Y 8) from hS).2) ⟨d0,d1⟩ D (by kernel_rfl) ?_;refine PT ?_;refine Ord.K ?_;refine Ord.K ?_;refine cV ?_;go_wp2;go_ret2;exact⟨by rw[E1.out,E2.out];rfl,hb4⟩
 ·have c0:w2.cell? ⟨w.heap.size,12,J⟩=aE (O Y 0):=bL gU D;have c1:w2.cell? ⟨w.heap.size,13,J⟩=aE (O Y 0):=bL gU D;have e1:Dj (x:Int)=0:=by unfold Dj;rw[Hk.out];rfl
  have e2:xS (x:Int)=0:=by unfold xS;rw[Hk.out];rfl
  have E1:=bK e1;have E2:=bK e2;have yM:=bS w2 (aI #[O Y 0,O Y 0] 396);have hb3:=hb2.alloc hb2.size (aI #[O Y 0,O Y 0] 396);clear e1 e2 gU Hk;go_wp2_with fail;generalize(w2.alloc (aI #[O Y 0,O Y 0] 396))=w3 at*;generalize w2.heap.size=gk at*;clear c0 c1;have d0:w3.drew.cell? ⟨gk,0,J⟩=aE (O Y 0):=bL (w:=w3.drew) yM D;have d1:w3.drew.cell? ⟨gk,1,J⟩=aE (O Y 0):=bL (w:=w3.drew) yM D;have hb4:=hb3.drew;refine cQ (fun w'=>w'.cell? ⟨gk,0,J⟩=aE (O Y 0)∧w'.cell? ⟨gk,1,J⟩=aE (O Y 0)) aD [] (by kernel_rfl) (by kernel_rfl) ⟨d0,d1⟩ ?_;refine Ord.K ?_;refine cR dB D (fun w' hS=>(show w'.cell? ⟨gk,0,J⟩=aE (O Y 0)∧_ from hS).1) ⟨d0,d1⟩ D (by kernel_rfl) ?_;refine PT ?_;refine Ord.K ?_;refine cR dB D (fun w' hS=>(show _∧w'.cell? ⟨gk,1,J⟩=aE (O Y 0) from hS).2) ⟨d0,d1⟩ D (by kernel_rfl) ?_;refine PT ?_;refine Ord.K ?_;refine Ord.K ?_;refine cV ?_;go_wp2;go_ret2;exact⟨by rw[E1.out,E2.out];rfl,hb4⟩
 ·have c0:w2.cell? ⟨w.heap.size,14,J⟩=aE (O Y 0):=bL gU D;have c1:w2.cell? ⟨w.heap.size,15,J⟩=aE (O Y 0):=bL gU D;have e1:Dj (x:Int)=0:=by unfold Dj;rw[Hk.out];rfl
  have e2:xS (x:Int)=0:=by unfold xS;rw[Hk.out];rfl
  have E1:=bK e1;have E2:=bK e2;have yM:=bS w2 (aI #[O Y 0,O Y 0] 396);have hb3:=hb2.alloc hb2.size (aI #[O Y 0,O Y 0] 396);clear e1 e2 gU Hk;go_wp2_with fail;generalize(w2.alloc (aI #[O Y 0,O Y 0] 396))=w3 at*;generalize w2.heap.size=gk at*;clear c0 c1;have d0:w3.drew.cell? ⟨gk,0,J⟩=aE (O Y 0):=bL (w:=w3.drew) yM D;have d1:w3.drew.cell? ⟨gk,1,J⟩=aE (O Y 0):=bL (w:=w3.drew) yM D;have hb4:=hb3.drew;refine cQ (fun w'=>w'.cell? ⟨gk,0,J⟩=aE (O Y 0)∧w'.cell? ⟨gk,1,J⟩=aE (O Y 0)) aD [] (by kernel_rfl) (by kernel_rfl) ⟨d0,d1⟩ ?_;refine Ord.K ?_;refine cR dB D (fun w' hS=>(show w'.cell? ⟨gk,0,J⟩=aE (O Y 0)∧_ from hS).1) ⟨d0,d1⟩ D (by kernel_rfl) ?_;refine PT ?_;refine Ord.K ?_;refine cR dB D (fun w' hS=>(show _∧w'.cell? ⟨gk,1,J⟩=aE (O Y 0) from hS).2) ⟨d0,d1⟩ D (by kernel_rfl) ?_;refine PT ?_;refine Ord.K ?_;refine Ord.K ?_;refine cV ?_;go_wp2;go_ret2;exact⟨by rw[E1.out,E2.out];rfl,hb4⟩
theorem mh(k:Int):Dj k=0∧Wk k=0∨Dj k=1∧Wk k=1∨Dj k=8∧Wk k=255∨Dj k=16∧Wk k=65535∨Dj k=32∧Wk k=4294967295∨Dj k=63∧Wk k=9223372036854775807:=by
 unfold Dj Wk;rcases Iy k with h|h|h|h|h|h<;>rw[h]<;>simp[btT,msT]
theorem Mh(k:Int)(w:aS):aU bH 466 #[O Y k] w fun e w'=>e=aJ (aN #[O Y (xS k:Int),aG (decide (xS k≠0))])∧aV w.heap.size w w':=by
 have hk:=Qh k w;generalize Dj k=a at*;generalize xS k=b at*;by_cases hz:b=0
 ·subst hz;rw[show decide ((0:Nat)≠0)=aD from D];go_enter func466,ntmps466;go_wp2_with fail;go_fit hk;rintro e w1 ⟨rfl,hb⟩;go_wp2;go_ret2;exact⟨D,hb⟩
 ·have h0:decide (0<b)=aF:=dU (by omega);rw[show decide (b≠0)=aF from dU hz];go_enter func466,ntmps466;go_wp2_with fail;go_fit hk;rintro e w1 ⟨rfl,hb⟩;have H0:=bK h0;clear h0;go_wp2;rw[H0.out];go_ret2;exact⟨D,hb⟩
theorem BQ(k:Int)(w:aS):aU bH 467 #[O Y k] w fun e w'=>e=aJ (O Y (Wk k:Int))∧aV w.heap.size w w':=by
 have hk:=Qh k w;have hc:=mh k;generalize xS k=b at*;generalize Dj k=a at*;generalize Wk k=m at*;rcases hc with⟨rfl,rfl⟩|⟨rfl,rfl⟩|⟨rfl,rfl⟩|⟨rfl,rfl⟩|⟨rfl,rfl⟩|⟨rfl,rfl⟩;all_goals go_enter func467,ntmps467;go_wp2_with fail;go_fit hk;rintro e w1 ⟨rfl,hb⟩;go_wp2;go_ret;exact⟨D,hb⟩
theorem Ut(w:aS):aU bH 465 #[] w (Qb P0 w):=by
 have hb0:aV w.heap.size w w:=bP _ _;have a1:=fun w=>mN 1 0 w;rw[bY (by decide)] at a1;unfold fv at a1;have a2:=fun w=>mN 1 7 w;rw[bY (by decide)] at a2;unfold fv at a2;have a3:=fun w=>mN 2 0 w;rw[bY (by decide)] at a3;unfold fv at a3;go_enter func465,ntmps465;go_wp2_with fail;go_fit(a1 _);rintro e w1 ⟨rfl,Aq⟩;have hb1:=eI hb0 Aq;clear Aq;go_wp2_with fail;go_fit(a2 _);rintro e w2 ⟨rfl,Tx⟩;have hb2:=eI hb1 Tx;clear Tx;go_wp2_with fail;go_fit(a3 _);rintro e w3 ⟨rfl,DX⟩;have hb3:=eI hb2 DX;clear DX;go_wp2;go_ret;exact F1 w3 w hb3 _ P0 _ D (by simp[P0]) km 3 D
def K0(p:Int × Int):List aT:= [O Y p.1,O Y p.2]
abbrev kQ:=@Eq.trans
theorem Rdr.keepU{lo g:Nat}{w w':aS}{l:List UInt8}{bad:Bool}{U:Nat→Prop}(h:Rdr lo w g l bad)(ha:Aw U w w')(hu: ∀k,U k→k<lo)(xe:lo≤g):Rdr lo w' g l bad:=by
 obtain⟨⟨A,n,c,h1,h2,h4⟩,h3⟩:=h;refine⟨⟨A,n,c,h1.aw ha (fun hU=>by have:=hu _ hU;omega),⟨h2.len,h2.le,h2.max,fun hn=> ?_⟩,h4⟩,h3⟩;obtain⟨ad,e,hb,hc⟩:=h2.at_ hn;refine⟨ad,e,hb,fun j u hj=>kQ ?_ (hc j u hj)⟩;have h5:=h4 ad e;have h6:=h1.lt;rw[World.cell?,World.cell?,ha.block (ad.add j).block (by rw[lL];omega) (fun hU=>by have:=hu _ hU;rw[lL] at this;omega)]
theorem gP{w:aS}(g:Nat)(cs:Array aT):Aw (fun k=>k=g) w (w.setRow g cs):=
 ⟨setRow_os w g cs,setRow_tape w g cs,setRow_output w g cs,by rw[setRow_size];exact bM _,fun k _ hu=>setRow_other w g k cs hu⟩
theorem fE{B:Nat}{a A' B':aS}{U:Nat→Prop}(h:aV B a A')(ha:Aw U A' B')(hu: ∀k,U k→B≤k)(hB:B≤A'.heap.size):aV B a B':=
 ⟨ha.os.trans h.os,ha.tape.trans h.tape,ha.output.trans h.output,bU h.size ha.size,fun k hk=>(ha.block k (by omega) (fun hU=>by have:=hu k hU;omega)).trans (h.block k hk)⟩
def QE(b:List UInt8)(w:aS)(e:aX)(w':aS):Prop:=
 ∃(A:Option aW) (n c:Nat),e=aJ (aN #[aM #[O Y (Bj b),aL A n c],O Y (rR b:Int)])∧RdR w' w'.heap.size 2 A n c ((Cf b).map K0)∧aV w.heap.size w w'
def RetTValF(b:List UInt8)(w:aS)(e:aX)(w':aS):Prop:=
 ∃(A:Option aW) (n c:Nat),e=aJ (aN #[aM #[O Y (Bj b),aL A n c],O Y (rR b:Int)])∧RdR w' w'.heap.size 2 A n c ((Cf b).map K0)∧(∀p,A=aE p→w.heap.size≤p.block)∧aV w.heap.size w w'
theorem RetTValF.plain{b:List UInt8}{w:aS}{e:aX}{w':aS}(h:RetTValF b w e w'):QE b w e w':=by
 obtain⟨A,n,c,h1,h2,_,h3⟩:=h;exact⟨A,n,c,h1,h2,h3⟩
theorem AH:(Tryz.prog.info? 241).map (fun i=>(i.zero,i.size,i.bytes))=aE (aE (aM #[O Y 0,O Y 0]),2,16):=by kernel_rfl
theorem PR(p:Int × Int): ∀u∈K0 p,u.oneCell'=aF:=by
 intro u hu;simp only[K0,fL,List.not_mem_nil,or_false] at hu;rcases hu with rfl|rfl<;>rfl
theorem OM(l:List (Int × Int))(p:Int × Int):(l.map K0).flatten++K0 p=((l++ [p]).map K0).flatten:=by simp
def PI:aT→Nat
 |aL _ n _=>n
 |_=>0
theorem xJ{b:List UInt8}{w w5:aS}{oE:Nat}(he:oE=rR b)(h0:oE≠0)(hb:aV w.heap.size w w5):RetTValF b w (aJ (aN #[aM #[O Y 0,aL J 0 0],O Y (oE:Int)])) w5:=by
 obtain⟨h1,h2⟩:=AQ (b:=b) (by rw[←he];exact h0);exact⟨J,0,0,by rw[h1,he],by rw[h2];exact kR _ _ _,fun _ h=>(by cases h),hb⟩
theorem Vr{r:List UInt8}(h:r.length≠0):(oQ 0 r).1=7:=by unfold oQ;rw[bX h]
theorem Sq{m:Nat}{r:List UInt8}(h:r.length≠0)(h4:r.length<4):(oQ (m+1) r).1=2:=by unfold oQ;rw[bX h,bY h4]
theorem Vx{m:Nat}{r:List UInt8}(h4: ¬r.length<4)(hk:xS (num (r.take 4))=0):(oQ (m+1) r).1=6:=by unfold oQ;rw[bX (by omega),bX h4,bY hk]
theorem Oz{m:Nat}{r:List UInt8}(h4: ¬r.length<4)(hk:xS (num (r.take 4))≠0)(h5:r.length<4+xS (num (r.take 4))):(oQ (m+1) r).1=2:=by unfold oQ;rw[bX (by omega),bX h4,bX hk,bY h5]
theorem Rj{m:Nat}{r:List UInt8}(h4: ¬r.length<4)(hk:xS (num (r.take 4))≠0)(h5: ¬r.length<4+xS (num (r.take 4)))(h6:Wk (num (r.take 4))<num ((r.drop 4).take (xS (num (r.take 4))))):(oQ (m+1) r).1=5:=by
 unfold oQ;rw[bX (by omega),bX h4,bX hk,bX h5,bY h6]
theorem U3{b:List UInt8}(hl: ¬b.length<4)(hh:jM P0 (b.take 4)=0):rR b=(oQ 32 (b.drop 4)).1:=by
 unfold rR;rw[bX hl,bY hh]
theorem rd4(l:List UInt8)(h: ¬l.length<4):Gd (nU 4) l aD=aD∧Dk (nU 4) l aD=l.take 4∧Qa (nU 4) l aD=l.drop 4:=by
 have h1:Gd (nU 4) l aD=aD:=by unfold Gd;rw[show nU 4=4 from D];simp;omega
 refine⟨h1,?_,?_⟩
 ·unfold Dk;rw[h1];rfl
 ·unfold Qa;rw[h1];rfl
theorem ZQ(l:List UInt8)(h:l.length<4):Gd (nU 4) l aD=aF∧Dk (nU 4) l aD= []∧Qa (nU 4) l aD= []:=by
 have h1:Gd (nU 4) l aD=aF:=by unfold Gd;rw[show nU 4=4 from D];simp;omega
 refine⟨h1,?_,?_⟩
 ·unfold Dk;rw[h1];rfl
 ·unfold Qa;rw[h1];rfl
theorem rdS(l:List UInt8)(s:Nat)(h1:s≠0)(h8:s≤8)(h:s≤l.length):Gd (nU s) l aD=aD∧Dk (nU s) l aD=l.take s∧Qa (nU s) l aD=l.drop s:=by
 have hn:nU s=s:=by unfold nU;rw[bX (by omega)]
 have h1:Gd (nU s) l aD=aD:=by unfold Gd;rw[hn];simp;omega
 refine⟨h1,?_,?_⟩
 ·unfold Dk;rw[h1,hn];rfl
 ·unfold Qa;rw[h1,hn];rfl
theorem Nf(A:Option aW)(n c B:Nat)(b:List UInt8)(w:aS)(h:Rd w B 1 A n c (bv b))(hB:B≤w.heap.size)(hn:n≤1000000000):
  aU bH 464 #[aL A n c] w (RetTValF b w):=by
 have hlb:=h.blen;have hle:=h.le;have hmx:=h.max;unfold bB at hmx;obtain⟨i0,hi⟩:=eW nP;obtain⟨i1,As⟩:=eW AH;have hb1:aV w.heap.size w (w.alloc (aI #[O Y 0,aL J 0 0] 63)):=(bP _ _).alloc (bM _) _;have hres:=bS w (aI #[O Y 0,aL J 0 0] 63);have Hlb:=bK hlb;have Hi1:=bK As;have Hi:=bK hi;by_cases h4:n<4
 ·clear hlb hi As;go_enter func464,ntmps464;go_wp2;go_step3;go_wp2_with(first|(with_reducible refine xM 63 ?_)|(with_reducible refine pF 63 ?_));generalize(w.alloc (aI #[O Y 0,aL J 0 0] 63))=w1 at*;have E2:Hid (2=rR b):=bK (by unfold rR;rw[bY (by rw[Hlb.out];omega)])
  skip
  refine eL (wpList_store_row D _ _ _ D w.heap.size #[O Y 0,aL J 0 0] D D _ _ hres (by kernel_rfl) D (by kernel_rfl) ?_);have cS:=setRow_heap _ _ _ (#[O Y 0,aL J 0 0]:Array aT) _ _ hres;have hb5:=below_setRow hb1 (bM _) (#[O Y 0,aL J 0 0]:Array aT);generalize(w1.setRow w.heap.size #[O Y 0,aL J 0 0])=v5 at*;have e0:=bL (i:=0) (v:=O Y 0) cS D;have e1:=bL (i:=1) (v:=aL J 0 0) cS D;go_wp2
  (try simp only[Exit.noGoto_ret])
  exact bR (v:=aN #[aM #[O Y 0,aL J 0 0],O Y 2]) (by simp[results,go_sem,e0,e1]) D (xJ (oE:=2) E2.out (by omega) hb5)
 obtain⟨r,rfl⟩: ∃r,n=r+4:=⟨n-4,by omega⟩;have ud: ∀w,(Instr.slice 22 (aL A (r+4) c) J (aE (O Y 4)) J).run bH w= .ok (aL A 4 c) w:=tL (P:=bH) dH hi.1 A (r+4) c 4 (by omega)
 have NC: ∀w,(Instr.slice 22 (aL A (r+4) c) (aE (O Y 4)) J J).run bH w= .ok (aL (oH A c 4 1) r (c-4)) w:=fun w=>by
  have:=rG (P:=bH) dH hi.1 hi.2.2.1 A (r+4) c 4 (by omega) w
  rwa[Nat.add_sub_cancel] at this
 obtain⟨qT,ua⟩: ∃v,v=uT P0 (b.take 4):=⟨_,D⟩;obtain⟨qE,ub⟩: ∃v,v=jM P0 (b.take 4):=⟨_,D⟩;have HqT:=bK ua;have HqE:=bK ub;clear hlb ua ub hi As;go_enter func464,ntmps464;go_wp2;go_step3;go_wp2_with fail;generalize(w.alloc (aI #[O Y 0,aL J 0 0] 63))=w1 at*;have fF:=bT hres;refine cQ (fun _=>True) aD [] (by kernel_rfl) (by kernel_rfl) cM ?_;have hb2:aV w.heap.size w w1.drew:=hb1.drew;replace hres:w1.drew.heap[w.heap.size]?=_:=hres;have h2:Rd w1.drew B 1 A (r+4) c (bv b):=h.up (hb2.mono hB);generalize w1.drew=w2 at*;clear hb1 fF;refine Ord.X ?_;go_wp2_with fail;go_fit(Ut w2);rintro e w3 ⟨Af,nf,cf,rfl,xg,Gu,hb23⟩;have hb3:=eI hb2 hb23;have h3:=h2.up (hb23.mono (bU hB hb2.size));replace hres:=bV hres hb23 (bT hres);go_wp2_with fail;refine cC cM (fun h=>by cases h) ?_;refine PT ?_;refine Ord.K ?_;refine Ord.K ?_;clear hb2 hb23 h2;refine Ord.X ?_;go_wp2_with fail;go_fit(qR Af nf cf w3.heap.size P0 A 4 c B (b.take 4) w3 Gu (bM _) (h3.btake (by omega)) (bU hB hb3.size) (by omega) (by omega));rw[←HqE.out,←HqT.out];rintro e w4 ⟨At,nt,ct,rfl,hown,hb34⟩;have hb4:=eI hb3 hb34;have h4':=h3.up (hb34.mono (bU hB hb3.size));replace hres:=bV hres hb34 (bT hres);go_wp2_with fail;refine cC cM (fun h=>by cases h) ?_;refine PT ?_;iterate 5 refine Ord.K ?_
 refine cV ?_;by_cases hq: ¬qE=0
 ·have NZ: ¬(qE:Int)=0:=by omega
  clear hb3 hb34 h3 Gu hown;have E2:Hid (qE=rR b):=bK (by unfold rR;rw[bX (by rw[Hlb.out];omega),bX (by rw[←HqE.out];exact hq)];exact HqE.out);go_wp2_with(with_reducible refine sT [63] ?_);refine eL (wpList_store_row D _ _ _ D w.heap.size #[O Y 0,aL J 0 0] D D _ _ hres (by kernel_rfl) D (by kernel_rfl) ?_);have cS:=setRow_heap _ _ _ (#[O Y 0,aL J 0 0]:Array aT) _ _ hres;have hb5:=below_setRow hb4 (bM _) (#[O Y 0,aL J 0 0]:Array aT);generalize(w4.setRow w.heap.size #[O Y 0,aL J 0 0])=v5 at*;have e0:=bL (i:=0) (v:=O Y 0) cS D;have e1:=bL (i:=1) (v:=aL J 0 0) cS D;go_wp2
  (try simp only[Exit.noGoto_ret])
  exact bR (v:=aN #[aM #[O Y 0,aL J 0 0],O Y qE]) (by simp[results,go_sem,e0,e1]) D (xJ (oE:=qE) E2.out (by omega) hb5)
 replace hq:=Decidable.not_not.mp hq;obtain⟨t,hv,_⟩:=ca (b:=b.take 4) (by rw[←HqE.out];exact hq);have uc:qT= [0,t,0]:=HqT.out.trans hv;have Hv:=bK hv;subst uc;obtain rfl:nt=3:=by have:=hown.1;simp at this;omega
 obtain⟨g4,rfl,Km,hg2,jI⟩:=Nh hown (by omega);have k1:w4.cell? ⟨g4,1,J⟩=aE (O Y t):=jI 1 _ D;have Hq:=bK (HqE.out.symm.trans hq);subst hq;rw[show((0:Nat):Int)=0 from D];have hbx:aV w4.heap.size w4 (w4.alloc (aI #[O Y t,aL J 0 0] 63)):=(bP _ _).alloc (bM _) _;have hb5:=eI hb4 hbx;have h5:=h4'.up (hbx.mono (bU hB hb4.size));have gU:=bS w4 (aI #[O Y t,aL J 0 0] 63);have E6:=bT hres;replace hres:=bV hres hbx E6;have hR:=h5.bdrop (k:=4) (by omega);rw[Nat.add_sub_cancel] at hR;have HM:=bK (U3 (b:=b) (by rw[Hlb.out];omega) Hq.out);have HT:Hid (rR b=0→Bj b=t∧Cf b=(oQ 32 (b.drop 4)).2):=bK (fun h=>⟨by unfold Bj;rw[bY h,Hv.out];rfl,by unfold Cf;rw[bY h]⟩);clear hb3 hb34 h3 Gu hown jI hv h4' hb4 hbx HqT;go_wp2_with fail;generalize(w4.alloc (aI #[O Y t,aL J 0 0] 63))=w5 at*;obtain⟨g6,hg6⟩: ∃g,g=w4.heap.size:=⟨_,D⟩;rw[←hg6] at gU E6 ⊢;clear hg6 k1 Km hg2;go_fit(Jq (oH A c 4 1) r (c-4) B (b.drop 4) w5 hR (bU hB hb5.size) (by omega));rintro e w6 ⟨g,rfl,hrd,xe,VA⟩;have hb6:=eI hb5 VA;have aJ3:g6<g:=cI (bT gU) xe;have hlo:=bT gU;replace gU:=bV gU VA (bT gU);replace hres:=bV hres VA (bT hres);generalize w5.heap.size=lo at*;clear VA hR h5 hb5 ud NC;go_wp2;go_step3;go_wp2_with fail;go_loopw [5] (fun e wr=> ∃(k m:Nat) (pre:List (Int × Int)) (R:List UInt8) (A2:Option aW) (c2:Nat),e=O Y 0∧k+m=32∧pre.length=k∧Rdr lo wr g R aD∧wr.heap[g6]?=aE (aI #[O Y t,aL A2 k c2] 63)∧wr.heap[w.heap.size]?=aE (aI #[O Y 0,aL J 0 0] 63)∧wr.ownsRow (g+1) 241 2 (aL A2 k c2) k (pre.map K0).flatten∧g+1≤wr.heap.size∧aV w.heap.size w wr∧Hid (oQ 32 (b.drop 4)=((oQ m R).1,pre++(oQ m R).2))) (fun _ wr=>33-PI ((wr.cell? ⟨g6,1,J⟩).getD (aL J 0 0)));case atStart=>exact⟨0,32,[],b.drop 4,J,0,D,D,D,hrd,gU,hres,dF _ _ _ _,hrd.1.elim fun _ h=>h.elim fun _ h=>h.elim fun _ h=>h.1.lt,hb6,bK (by simp)⟩
 case round=>
  clear hrd gU hres hb6 w6;obtain⟨k,m,pre,R,A2,c2,rfl,hkm,Am,hrd,gU,hres,hown,ue,hb,Hst⟩:=hrel;have Hpl:=bK Am;have Hk1:=bK (bL (i:=1) (v:=aL A2 k c2) gU D);clear Am;go_wp2_with fail;go_fit(M0 lo g R aD wr hrd);rintro e wr' ⟨rfl,rfl⟩;by_cases dw:R.length=0
  ·have rH:=Hst.out;rw[AS _ _ dw] at rH;have hE:0=rR b:=by rw[HM.out,rH]
   obtain⟨hT1,hT2⟩:=HT.out hE.symm;have hL:Cf b=pre:=by rw[hT2,rH];simp
   have HE:=bK hE;have HL:=bK hL;have HT1:=bK hT1;clear hE hT1 hT2 hL rH hrd;rw[dw];go_wp2_with(with_reducible refine sT [63] ?_);refine eL (wpList_load_row D _ _ D g6 D _ _ _ _ gU underlying63 D (by kernel_rfl) ?_);go_wp2_with(with_reducible refine sT [63] ?_);refine eL (wpList_store_row D _ _ _ D w.heap.size #[O Y t,aL A2 k c2] D D _ _ hres (by kernel_rfl) D (by kernel_rfl) ?_);have iW:=setRow_heap _ _ _ (#[O Y t,aL A2 k c2]:Array aT) _ _ hres;have hb6:=below_setRow hb (bM _) (#[O Y t,aL A2 k c2]:Array aT);have E4:=iZ hown (gP w.heap.size (#[O Y t,aL A2 k c2]:Array aT)) (fun k hk hu=>by have:=(eU hown hk).1;omega);generalize(wr.setRow w.heap.size #[O Y t,aL A2 k c2])=v5 at*;have e0:=bL (i:=0) (v:=O Y t) iW D;have e1:=bL (i:=1) (v:=aL A2 k c2) iW D;have hrr:=RdR.own (ls:=pre.map K0) E4 (by rw[List.length_map];exact Hpl.out) (fun r hr=>by obtain⟨s,hs,rfl⟩:=List.mem_map.1 hr;rfl);go_wp2
   (try simp only[Exit.noGoto_ret])
   refine bR (v:=aN #[aM #[O Y t,aL A2 k c2],O Y 0]) (by simp[results,go_sem,e0,e1]) D ⟨A2,k,c2,by rw[HT1.out,←HE.out];rfl,by rw[HL.out];exact hrr,fun p hp=>(by subst hp;exact bU (by omega) (eU hown D).1),hb6⟩
  have aJ4:(0:Int)<(R.length:Int):=by omega
  by_cases hm:m=0
  ·subst hm;obtain rfl:k=32:=by omega
   have k1:=Hk1.out;have E2:Hid (7=rR b):=bK (by rw[HM.out,Hst.out];exact(Vr dw).symm);go_wp2_with(with_reducible refine sT [63] ?_);refine eL (wpList_store_row D _ _ _ D w.heap.size #[O Y 0,aL J 0 0] D D _ _ hres (by kernel_rfl) D (by kernel_rfl) ?_);have cS:=setRow_heap _ _ _ (#[O Y 0,aL J 0 0]:Array aT) _ _ hres;have hb5:=below_setRow hb (bM _) (#[O Y 0,aL J 0 0]:Array aT);generalize(wr.setRow w.heap.size #[O Y 0,aL J 0 0])=v5 at*;have e0:=bL (i:=0) (v:=O Y 0) cS D;have e1:=bL (i:=1) (v:=aL J 0 0) cS D;go_wp2
   (try simp only[Exit.noGoto_ret])
   exact bR (v:=aN #[aM #[O Y 0,aL J 0 0],O Y 7]) (by simp[results,go_sem,e0,e1]) D (xJ (oE:=7) E2.out (by omega) hb5)
  obtain⟨m,rfl⟩: ∃j,m=j+1:=⟨m-1,by omega⟩;have aJ5: ¬(k:Int)=32:=by omega
  have k1:=Hk1.out;go_wp2_with fail;go_fit(Cu lo g R aD 4 wr hrd);by_cases VB:R.length<4
  ·obtain⟨f1,f2,f3⟩:=ZQ R VB;rw[f1,f2,f3];rintro e w7 ⟨rfl,hrd7,hgr⟩;have tN:=(hgr.block _ (bT gU) (fun e=>by injection e with e;omega)).trans gU;have gQ:=(hgr.block _ (bT hres) (fun e=>by injection e with e;omega)).trans hres;have uW:=iZ hown (mA hgr) (fun j hj hu=>by have:=(eU hown hj).1;injection hu with hu;omega);have hb7:=Below.grown hb hgr hb.size (fun j hj=>by injection hj with hj;omega);have Pu:=bU ue hgr.size;clear hgr gU hres hown hb ue hrd;rw[show((num []:Nat):Int)=0 from D];have hs:=Mh 0 w7;rw[show xS 0=0 from D,show decide ((0:Nat)≠0)=aD from D] at hs;go_wp2_with fail;go_fit hs;rintro e w8 ⟨rfl,hb78⟩;have Cs:=bV tN hb78 (bT tN);have nC:=bV gQ hb78 (bT gQ);have Bu:=jK uW hb78 (bM _);have Lq:=hrd7.keep (qV hb78 J) (fun _ e=>by cases e);have DY:=bU Pu hb78.size;have hb8:=eI hb7 hb78;clear hb78 tN gQ uW hb7 Pu hrd7;go_wp2_with fail;go_fit(Fv lo g [] aF w8 Lq);rintro e w9 ⟨rfl,rfl⟩;have E2:Hid (2=rR b):=bK (by rw[HM.out,Hst.out];exact(Sq dw VB).symm);go_wp2_with(with_reducible refine sT [63] ?_);refine eL (wpList_store_row D _ _ _ D w.heap.size #[O Y 0,aL J 0 0] D D _ _ nC (by kernel_rfl) D (by kernel_rfl) ?_);have cS:=setRow_heap _ _ _ (#[O Y 0,aL J 0 0]:Array aT) _ _ nC;have hb5:=below_setRow hb8 (bM _) (#[O Y 0,aL J 0 0]:Array aT);generalize(w8.setRow w.heap.size #[O Y 0,aL J 0 0])=v5 at*;have e0:=bL (i:=0) (v:=O Y 0) cS D;have e1:=bL (i:=1) (v:=aL J 0 0) cS D;go_wp2
   (try simp only[Exit.noGoto_ret])
   exact bR (v:=aN #[aM #[O Y 0,aL J 0 0],O Y 2]) (by simp[results,go_sem,e0,e1]) D (xJ (oE:=2) E2.out (by omega) hb5)
  obtain⟨f1,f2,f3⟩:=rd4 R VB;rw[f1,f2,f3];clear f1 f2 f3;rintro e w7 ⟨rfl,hrd7,hgr⟩;have tN:=(hgr.block _ (bT gU) (fun e=>by injection e with e;omega)).trans gU;have gQ:=(hgr.block _ (bT hres) (fun e=>by injection e with e;omega)).trans hres;have uW:=iZ hown (mA hgr) (fun j hj hu=>by have:=(eU hown hj).1;injection hu with hu;omega);have hb7:=Below.grown hb hgr hb.size (fun j hj=>by injection hj with hj;omega);have Pu:=bU ue hgr.size;clear hgr gU hres hown hb ue hrd;have dv:=num_lt (R.take 4);have Pf:(R.take 4).length=4:=by rw[fH];omega
  rw[Pf] at dv;have dv:num (R.take 4)<4294967296:=dv;obtain⟨kx,hkx⟩: ∃v,v=num (R.take 4):=⟨_,D⟩;rw[←hkx] at dv ⊢;have Hkx:=bK hkx;have hwk:IntKind.i64.wrap (kx:Int)=kx:=by rw[fA];omega
  clear hkx Pf k1;have hs:=Mh kx w7;by_cases hz:xS kx=0
  ·rw[hz,show decide ((0:Nat)≠0)=aD from D] at hs;go_wp2_with fail;go_fit hs;rintro e w8 ⟨rfl,hb78⟩;have Cs:=bV tN hb78 (bT tN);have nC:=bV gQ hb78 (bT gQ);have Bu:=jK uW hb78 (bM _);have Lq:=hrd7.keep (qV hb78 J) (fun _ e=>by cases e);have DY:=bU Pu hb78.size;have hb8:=eI hb7 hb78;clear hb78 tN gQ uW hb7 Pu hrd7;go_wp2_with fail;go_fit(Fv lo g (R.drop 4) aD w8 Lq);rintro e w9 ⟨rfl,rfl⟩;have E2:Hid (6=rR b):=bK (by rw[HM.out,Hst.out];exact(Vx VB (by rw[←Hkx.out];exact hz)).symm);go_wp2_with(with_reducible refine sT [63] ?_);refine eL (wpList_store_row D _ _ _ D w.heap.size #[O Y 0,aL J 0 0] D D _ _ nC (by kernel_rfl) D (by kernel_rfl) ?_);have cS:=setRow_heap _ _ _ (#[O Y 0,aL J 0 0]:Array aT) _ _ nC;have hb5:=below_setRow hb8 (bM _) (#[O Y 0,aL J 0 0]:Array aT);generalize(w8.setRow w.heap.size #[O Y 0,aL J 0 0])=v5 at*;have e0:=bL (i:=0) (v:=O Y 0) cS D;have e1:=bL (i:=1) (v:=aL J 0 0) cS D;go_wp2
   (try simp only[Exit.noGoto_ret])
   exact bR (v:=aN #[aM #[O Y 0,aL J 0 0],O Y 6]) (by simp[results,go_sem,e0,e1]) D (xJ (oE:=6) E2.out (by omega) hb5)
  rw[show decide (xS kx≠0)=aF from dU hz] at hs;have Kl:=kf (kx:Int);obtain⟨sn,UY⟩: ∃v,v=xS (kx:Int):=⟨_,D⟩;have Hsn:=bK UY;rw[←UY] at hs hz Kl;clear UY;go_wp2_with fail;go_fit hs;rintro e w8 ⟨rfl,hb78⟩;have Cs:=bV tN hb78 (bT tN);have nC:=bV gQ hb78 (bT gQ);have Bu:=jK uW hb78 (bM _);have Lq:=hrd7.keep (qV hb78 J) (fun _ e=>by cases e);have DY:=bU Pu hb78.size;have hb8:=eI hb7 hb78;clear hb78 tN gQ uW hb7 Pu hrd7;clear hs;go_wp2_with fail;go_fit(Fv lo g (R.drop 4) aD w8 Lq);rintro e w9 ⟨rfl,rfl⟩;go_wp2_with fail;go_fit(M0 lo g (R.drop 4) aD w8 Lq);rintro e w9 ⟨rfl,rfl⟩;have DG:(R.drop 4).length=R.length-4:=iA;by_cases hR5:R.length<4+sn
  ·have uf:((R.drop 4).length:Int)<(sn:Int):=by omega
   have E2:Hid (2=rR b):=bK (by rw[HM.out,Hst.out];exact(Oz VB (by rw[←Hkx.out,←Hsn.out];exact hz) (by rw[←Hkx.out,←Hsn.out];exact hR5)).symm);go_wp2_with(with_reducible refine sT [63] ?_);refine eL (wpList_store_row D _ _ _ D w.heap.size #[O Y 0,aL J 0 0] D D _ _ nC (by kernel_rfl) D (by kernel_rfl) ?_);have cS:=setRow_heap _ _ _ (#[O Y 0,aL J 0 0]:Array aT) _ _ nC;have hb5:=below_setRow hb8 (bM _) (#[O Y 0,aL J 0 0]:Array aT);generalize(w8.setRow w.heap.size #[O Y 0,aL J 0 0])=v5 at*;have e0:=bL (i:=0) (v:=O Y 0) cS D;have e1:=bL (i:=1) (v:=aL J 0 0) cS D;go_wp2
   (try simp only[Exit.noGoto_ret])
   exact bR (v:=aN #[aM #[O Y 0,aL J 0 0],O Y 2]) (by simp[results,go_sem,e0,e1]) D (xJ (oE:=2) E2.out (by omega) hb5)
  have uf: ¬((R.drop 4).length:Int)<(sn:Int):=by omega
  go_wp2_with fail;go_fit(Cu lo g (R.drop 4) aD sn w8 Lq);obtain⟨f1,f2,f3⟩:=rdS (R.drop 4) sn hz Kl (by omega);rw[f1,f2,f3];clear f1 f2 f3 uf;rintro e w9 ⟨rfl,hrd9,hgr⟩;have ND:=(hgr.block _ (bT Cs) (fun e=>by injection e with e;omega)).trans Cs;have kK:=(hgr.block _ (bT nC) (fun e=>by injection e with e;omega)).trans nC;have Ae:=iZ Bu (mA hgr) (fun j hj hu=>by have:=(eU Bu hj).1;injection hu with hu;omega);have hb9:=Below.grown hb8 hgr hb8.size (fun j hj=>by injection hj with hj;omega);have ug:=bU DY hgr.size;clear hgr Cs nC Bu hb8 DY Lq;have LW:=num_lt ((R.drop 4).take sn);have hl5:((R.drop 4).take sn).length=sn:=by rw[fH];omega
  rw[hl5] at LW;have aCq:num ((R.drop 4).take sn)<18446744073709551616:=cI LW (Yw Kl);obtain⟨vx,NY⟩: ∃v,v=num ((R.drop 4).take sn):=⟨_,D⟩;rw[←NY] at aCq ⊢;have Hvx:=bK NY;have hml:=lj (kx:Int);obtain⟨mx,fj⟩: ∃v,v=Wk (kx:Int):=⟨_,D⟩;have Hmx:=bK fj;have hmo:=BQ (kx:Int) w9;rw[←fj] at hmo hml;have hwm:IntKind.u64.wrap (mx:Int)=mx:=IntWalk.u64_in _ (by omega);clear LW hl5 NY fj DG;go_wp2_with fail;go_fit hmo;rintro e wa ⟨rfl,hb9a⟩;have To:=bV ND hb9a (bT ND);have Tp:=bV kK hb9a (bT kK);have XL:=jK Ae hb9a (bM _);have hrda:=hrd9.keep (qV hb9a J) (fun _ e=>by cases e);have aCr:=bU ug hb9a.size;have hba:=eI hb9 hb9a;clear hb9a ND kK Ae hb9 ug hrd9;by_cases aCs:mx<vx
  ·have uh:(mx:Int)<(vx:Int):=by omega
   have E2:Hid (5=rR b):=bK (by rw[HM.out,Hst.out];exact(Rj VB (by rw[←Hkx.out,←Hsn.out];exact hz) (by rw[←Hkx.out,←Hsn.out];omega) (by rw[←Hkx.out,←Hsn.out,←Hmx.out,←Hvx.out];exact aCs)).symm);go_wp2_with(with_reducible refine sT [63] ?_);refine eL (wpList_store_row D _ _ _ D w.heap.size #[O Y 0,aL J 0 0] D D _ _ Tp (by kernel_rfl) D (by kernel_rfl) ?_);have cS:=setRow_heap _ _ _ (#[O Y 0,aL J 0 0]:Array aT) _ _ Tp;have hb5:=below_setRow hba (bM _) (#[O Y 0,aL J 0 0]:Array aT);generalize(wa.setRow w.heap.size #[O Y 0,aL J 0 0])=v5 at*;have e0:=bL (i:=0) (v:=O Y 0) cS D;have e1:=bL (i:=1) (v:=aL J 0 0) cS D;go_wp2
   (try simp only[Exit.noGoto_ret])
   exact bR (v:=aN #[aM #[O Y 0,aL J 0 0],O Y 5]) (by simp[results,go_sem,e0,e1]) D (xJ (oE:=5) E2.out (by omega) hb5)
  have uh: ¬(mx:Int)<(vx:Int):=by omega
  have hwv:IntKind.i64.wrap (vx:Int)=vx:=by rw[fA];omega
  have Hstep:Hid (oQ 32 (b.drop 4)=((oQ m ((R.drop 4).drop sn)).1,(pre++ [((kx:Int),(vx:Int))])++(oQ m ((R.drop 4).drop sn)).2)):=bK (by
   rw[Hst.out,Vk (k:=(kx:Int)) (v:=(vx:Int)) (R:=(R.drop 4).drop sn) (by rw[Hkx.out]) (by rw[←Hsn.out];omega) (by rw[←Hsn.out,Hvx.out]) (by rw[←Hsn.out]) (by rw[←Hsn.out];exact hz) (by rw[←Hmx.out];omega)]
   simp)
  have Hpl2:Hid ((pre++ [((kx:Int),(vx:Int))]).length=k+1):=bK (by rw[cZ,Hpl.out];rfl);have k1:wa.cell? ⟨g6,1,J⟩=aE (aL A2 k c2):=bL To D;have hbn:aV wa.heap.size wa (wa.alloc (aI #[O Y kx,O Y vx] 241)):=(bP _ _).alloc (bM _) _;have Ll:Rd (wa.alloc (aI #[O Y kx,O Y vx] 241)) (wa.heap.size+1) 2 (aE ⟨wa.heap.size,0,J⟩) 1 1 (K0 ((kx:Int),(vx:Int))):=by have:=(sQ (size:=2) (e:=241) wa [K0 ((kx:Int),(vx:Int))] #[O Y kx,O Y vx] D (by simp[K0]) (by simp[bB]) 1 D).rd (by omega);simpa using this
  have hlw:=bT To;replace hrda:=hrda.keep (qV hbn J) (fun _ e=>by cases e);have NF:=bV Tp hbn (bT Tp);have NG:=bV To hbn (bT To);have NH:=jK XL hbn (bM _);have hbb:=eI hba hbn;have ui:=bU aCr hbn.size;go_wp2_with(at_builtin;refine rP ?_);clear k1 hbn Tp To XL hba;generalize(wa.alloc (aI #[O Y kx,O Y vx] 241))=wb at*;refine eL (iY (base:=g+1) (n:=k) underlying61 Hi1.out D (by omega) NH D Ll D (PR _) (k:=k+1) D (OM _ _) (by unfold bB;omega) (by omega) ui ?_);intro A7 c7 v7 uW hgr zE;have Ke: ∀j,(Value.slice A2 k c2).ownBlock=aE j→g<j:=fun j hj=>by have:=(eU NH hj).1;omega
  have tN:=(hgr.block _ (bT NG) (fun e=>by have:=Ke _ e.symm;omega)).trans NG;have gQ:=(hgr.block _ (bT NF) (fun e=>by have:=Ke _ e.symm;omega)).trans NF;have hb7:=Below.grown hbb hgr hbb.size (fun j hj=>by have:=Ke j hj;omega);have hrd7:=hrda.keep hgr Ke;have Pu:g+1≤v7.heap.size:=bU ui hgr.size;clear hgr zE NH NG NF hbb Ll Ke hrda;have s1:v7.cell? ⟨g6,1,J⟩=aE (aL A2 k c2):=bL tN D;have s2:v7.frozen? ⟨g6,1,J⟩=aD:=bZ (i:=1) tN;have Cs:=cN (i:=1) tN (aL A7 (k+1) c7);have haw8:Aw (fun j=>j=g6) v7 (v7.setCell ⟨g6,1,J⟩ (aL A7 (k+1) c7)):=(cY _ _).set (p:=⟨g6,1,J⟩) _ D;have nC:=haw8.keep gQ (by omega);have Bu:=iZ uW haw8 (fun j hj hu=>by have:=(eU uW hj).1;omega);have hb8:=fE hb7 haw8 (fun j hj=>by omega) hb7.size;have Lq:Rdr lo (v7.setCell ⟨g6,1,J⟩ (aL A7 (k+1) c7)) g ((R.drop 4).drop sn) aD:=hrd7.keepU haw8 (fun j hj=>by omega) xe;have DY:=bU Pu haw8.size;have Hn8:=bK (bL (i:=1) (v:=aL A7 (k+1) c7) Cs D);clear gQ tN uW hb7 haw8 hrd7;go_wp2;go_roundw;case rel=>exact⟨k+1,m,pre++ [((kx:Int),(vx:Int))],(R.drop 4).drop sn,A7,c7,D,by omega,Hpl2.out,Lq,Cs,nC,Bu,DY,hb8,Hstep⟩
  case measure=>rw[Hn8.out,Hk1.out];show 33-(k+1)<33-k;omega
end
end Go.Proofs.YtfoabhdppkjmbaaGreat
