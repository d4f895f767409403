import Derived.Test.YtfoabhdppkjmbaaGreatKZ13
import Derived.Test.YtfoabhdppkjmbaaGreatKZ14
import Derived.Laws.CopyRow
import Derived.OwnWalk
set_option linter.unusedSimpArgs false
set_option linter.unusedVariables false
set_option maxHeartbeats 16000000
set_option maxRecDepth 100000
namespace Go.Proofs.YtfoabhdppkjmbaaGreat
open Bool renaming false→aD,true→aF
open Go renaming Addr→aW,Calls→aU,Ending→aX,Oper→bA,Program→aZ,TypeId→aY,Value→aT,World→aS,execOp→bD,maxLen→bB,typeInfo→bF
open Go.Ending renaming returned→aJ
open Go.IntKind renaming i64→Y
open Go.Obj renaming cells→aI
open Go.Proofs.Tryz renaming prog→bH
open Go.RowKit renaming Below→aV,intOf→bE
open Go.Value renaming agg→aM,bool→aG,int→O,pointer→aK,slice→aL,string→aH,tuple→aN
open Option renaming none→J,some→aE
open Go.Proofs.Tryz
namespace NumLaw
end NumLaw
section
open Go.RowKit NumLaw
def pvtF:List eK:= [⟨4,aD,0,604799999⟩,⟨2,aD,0,65535⟩,⟨1,aD,0,12⟩,⟨1,aD,0,31⟩,⟨1,aD,0,23⟩,⟨1,aD,0,59⟩,⟨1,aD,0,60⟩,⟨1,aD,0,15⟩,⟨4,aD,0,4294967295⟩,⟨4,aF,(-1000000000),1000000000⟩,⟨1,aD,0,5⟩,⟨1,aD,0,255⟩,⟨1,aD,0,255⟩,⟨1,aD,0,255⟩,⟨4,aF,(-1800000000),1800000000⟩,⟨4,aF,(-900000000),900000000⟩,⟨4,aF,(-2147483648),2147483647⟩,⟨4,aF,(-2147483648),2147483647⟩,⟨4,aD,0,4294967295⟩,⟨4,aD,0,4294967295⟩,⟨4,aF,(-2147483648),2147483647⟩,⟨4,aF,(-2147483648),2147483647⟩,⟨4,aF,(-2147483648),2147483647⟩,⟨4,aF,(-2147483648),2147483647⟩,⟨4,aF,0,36000000⟩,⟨4,aD,0,4294967295⟩,⟨4,aD,0,4294967295⟩,⟨2,aD,0,65535⟩,⟨2,aD,0,31⟩,⟨4,aD,0,0⟩,⟨4,aF,0,36000000⟩,⟨2,aF,(-18000),18000⟩,⟨2,aD,0,65535⟩]
theorem ax:FB pvtF:=by
 have h:(pvtF.all fun f=>decide ((-9223372036854775808≤f.size∧f.size≤9223372036854775807)∧(-9223372036854775808≤f.lo∧f.lo≤9223372036854775807)∧(-9223372036854775808≤f.hi∧f.hi≤9223372036854775807)))=aF:=by decide+kernel
 intro f hf;exact eZ (List.all_eq_true.1 h f hf)
theorem IT(w:aS)(e:aY)(l:List eK)(cs:Array aT)(Co:cs=(Ft l).toArray)(hm:l.length≤1000)(hb:FB l)(n:Nat)(hn:l.length=n):Qb l w (aJ (aL (aE ⟨w.heap.size,0,J⟩) n n)) (w.alloc (aI cs e)):=by
 subst hn;refine⟨_,_,_,D,hm,?_,(bP _ _).alloc (bM _) _⟩;rw[cL];exact Nd w e l cs Co (by unfold bB;omega) hb
theorem aa:nR 1 aD=⟨1,aD,0,255⟩:=by simp[nR,nM]
theorem ZS:nR 2 aD=⟨2,aD,0,65535⟩:=by simp[nR,nM]
theorem ZW:nR 4 aD=⟨4,aD,0,4294967295⟩:=by simp[nR,nM]
theorem QV:nR 4 aF=⟨4,aF,-2147483648,2147483647⟩:=by simp[nR,nM]
theorem O7(w:aS):aU bH 426 #[] w (Qb pvtF w):=by
 have a1:=fun w=>oS 1 aD w;have a2:=fun w=>oS 2 aD w;have a3:=fun w=>oS 4 aD w;have a4:=fun w=>oS 4 aF w;have a5:=fun w=>r9 4 0 36000000 w;rw[aa] at a1;rw[ZS] at a2;rw[ZW] at a3;rw[QV] at a4;rw[bY (by decide)] at a5;unfold fv at a1 a2 a3 a4 a5;go_enter func426,ntmps426;go_wp2_with fail;go_fit(a1 _);rintro e w1 ⟨rfl,hb1⟩;go_wp2_with fail;go_fit(a2 _);rintro e w2 ⟨rfl,hb12⟩;have hb2:=eI hb1 hb12;go_wp2_with fail;go_fit(a3 _);rintro e w3 ⟨rfl,hb23⟩;have hb3:=eI hb2 hb23;clear hb1 hb12 hb2 hb23;obtain⟨q1,q2,q3,hs,hbl⟩:=WD w3 (aI #[O Y 1,aG aD,O Y 0,O Y 255] 408) (aI #[O Y 2,aG aD,O Y 0,O Y 65535] 408) (aI #[O Y 4,aG aD,O Y 0,O Y 4294967295] 408);have hb4:=eI hb3 hbl;have Hs:=bK hs;clear hs hbl hb3;go_wp2_with fail;generalize(((w3.alloc (aI #[O Y 1,aG aD,O Y 0,O Y 255] 408)).alloc (aI #[O Y 2,aG aD,O Y 0,O Y 65535] 408)).alloc (aI #[O Y 4,aG aD,O Y 0,O Y 4294967295] 408))=w4 at*;generalize w3.heap.size=g1 at*;go_fit(a4 _);rintro e w5 ⟨rfl,hb45⟩;have hb5:=eI hb4 hb45;replace q1:=bV q1 hb45 (bT q1);replace q2:=bV q2 hb45 (bT q2);replace q3:=bV q3 hb45 (bT q3);have q4:=bS w5 (aI #[O Y 4,aG aF,O Y (-2147483648),O Y 2147483647] 408);replace q1:=(heap_alloc_old w5 (aI #[O Y 4,aG aF,O Y (-2147483648),O Y 2147483647] 408) (h:=bT q1)).trans q1;replace q2:=(heap_alloc_old w5 (aI #[O Y 4,aG aF,O Y (-2147483648),O Y 2147483647] 408) (h:=bT q2)).trans q2;replace q3:=(heap_alloc_old w5 (aI #[O Y 4,aG aF,O Y (-2147483648),O Y 2147483647] 408) (h:=bT q3)).trans q3;have hb6:=hb5.alloc hb5.size (aI #[O Y 4,aG aF,O Y (-2147483648),O Y 2147483647] 408);clear hb4 hb45 hb5;go_wp2_with fail;generalize(w5.alloc (aI #[O Y 4,aG aF,O Y (-2147483648),O Y 2147483647] 408))=w6 at*;generalize w5.heap.size=g2 at*;go_fit(a5 _);rintro e w7 ⟨rfl,DQ⟩;have hb7:=eI hb6 DQ;replace q1:=bV q1 DQ (bT q1);replace q2:=bV q2 DQ (bT q2);replace q3:=bV q3 DQ (bT q3);replace q4:=bV q4 DQ (bT q4);have q5:=bS w7 (aI #[O Y 4,aG aF,O Y 0,O Y 36000000] 408);replace q1:=(heap_alloc_old w7 (aI #[O Y 4,aG aF,O Y 0,O Y 36000000] 408) (h:=bT q1)).trans q1
 replace q2:=(heap_alloc_old w7 (aI #[O Y 4,aG aF,O Y 0,O Y 36000000] 408) (h:=bT q2)).trans q2;replace q3:=(heap_alloc_old w7 (aI #[O Y 4,aG aF,O Y 0,O Y 36000000] 408) (h:=bT q3)).trans q3;replace q4:=(heap_alloc_old w7 (aI #[O Y 4,aG aF,O Y 0,O Y 36000000] 408) (h:=bT q4)).trans q4;have hb8:=hb7.alloc hb7.size (aI #[O Y 4,aG aF,O Y 0,O Y 36000000] 408);clear hb6 DQ hb7 a1 a2 a3 a4 a5;go_wp2_with fail;generalize(w7.alloc (aI #[O Y 4,aG aF,O Y 0,O Y 36000000] 408))=w8 at*;generalize w7.heap.size=g3 at*;have r1:w8.rangeAt (g1) 0 [O Y 1,aG aD,O Y 0,O Y 255]:=jT q1 0 (fun j v hv=>by simpa using hv);have l1:=bT q1;have r2:w8.rangeAt (g1+1) 0 [O Y 2,aG aD,O Y 0,O Y 65535]:=jT q2 0 (fun j v hv=>by simpa using hv);have l2:=bT q2;have r3:w8.rangeAt (g1+2) 0 [O Y 4,aG aD,O Y 0,O Y 4294967295]:=jT q3 0 (fun j v hv=>by simpa using hv);have l3:=bT q3;have r4:w8.rangeAt (g2) 0 [O Y 4,aG aF,O Y (-2147483648),O Y 2147483647]:=jT q4 0 (fun j v hv=>by simpa using hv);have l4:=bT q4;have r5:w8.rangeAt (g3) 0 [O Y 4,aG aF,O Y 0,O Y 36000000]:=jT q5 0 (fun j v hv=>by simpa using hv);have l5:=bT q5;clear q1 q2 q3 q4 q5;refine cQ (fun w'=>aV w8.heap.size w8 w') aD [] (by kernel_rfl) (by kernel_rfl) ((bP _ _).drew) ?_;have h0:aV w8.heap.size w8 w8.drew:=(bP _ _).drew;generalize w8.drew=u0 at*;have hu:=fun w=>mN 4 604799999 w;rw[bY (by decide)] at hu;unfold fv at hu;refine Ord.X ?_;go_wp2_with fail;go_fit(hu _);rintro e u1 ⟨rfl,hbu⟩;have h1:=h0.trans (hbu.mono h0.size);go_wp2_with fail;refine cC h1 (fun h=>by cases h) ?_;refine PT ?_;clear hbu hu h0;refine eA dX D (by kernel_rfl) D (by simp) (fun w' hS j v hv=>((show aV _ w8 w' from hS).cell (p:=⟨g1+1,0+j,J⟩) l2).trans (r2 j v hv)) h1 (by kernel_rfl) ?_;refine PT ?_;have hu:=fun w=>mN 1 12 w;rw[bY (by decide)] at hu;unfold fv at hu;refine Ord.X ?_;go_wp2_with fail;go_fit(hu _);rintro e u2 ⟨rfl,hbu⟩;have h2:=h1.trans (hbu.mono h1.size);go_wp2_with fail;refine cC h2 (fun h=>by cases h) ?_;refine PT ?_;clear hbu hu h1;have hu:=fun w=>mN 1 31 w
 rw[bY (by decide)] at hu;unfold fv at hu;refine Ord.X ?_;go_wp2_with fail;go_fit(hu _);rintro e u3 ⟨rfl,hbu⟩;have h3:=h2.trans (hbu.mono h2.size);go_wp2_with fail;refine cC h3 (fun h=>by cases h) ?_;refine PT ?_;clear hbu hu h2;have hu:=fun w=>mN 1 23 w;rw[bY (by decide)] at hu;unfold fv at hu;refine Ord.X ?_;go_wp2_with fail;go_fit(hu _);rintro e u4 ⟨rfl,hbu⟩;have h4:=h3.trans (hbu.mono h3.size);go_wp2_with fail;refine cC h4 (fun h=>by cases h) ?_;refine PT ?_;clear hbu hu h3;have hu:=fun w=>mN 1 59 w;rw[bY (by decide)] at hu;unfold fv at hu;refine Ord.X ?_;go_wp2_with fail;go_fit(hu _);rintro e u5 ⟨rfl,hbu⟩;have h5:=h4.trans (hbu.mono h4.size);go_wp2_with fail;refine cC h5 (fun h=>by cases h) ?_;refine PT ?_;clear hbu hu h4;have hu:=fun w=>mN 1 60 w;rw[bY (by decide)] at hu;unfold fv at hu;refine Ord.X ?_;go_wp2_with fail;go_fit(hu _);rintro e u6 ⟨rfl,hbu⟩;have h6:=h5.trans (hbu.mono h5.size);go_wp2_with fail;refine cC h6 (fun h=>by cases h) ?_;refine PT ?_;clear hbu hu h5;have hu:=fun w=>mN 1 15 w;rw[bY (by decide)] at hu;unfold fv at hu;refine Ord.X ?_;go_wp2_with fail;go_fit(hu _);rintro e u7 ⟨rfl,hbu⟩;have h7:=h6.trans (hbu.mono h6.size);go_wp2_with fail;refine cC h7 (fun h=>by cases h) ?_;refine PT ?_;clear hbu hu h6;refine eA dX D (by kernel_rfl) D (by simp) (fun w' hS j v hv=>((show aV _ w8 w' from hS).cell (p:=⟨g1+2,0+j,J⟩) l3).trans (r3 j v hv)) h7 (by kernel_rfl) ?_;refine PT ?_;have hu:=fun w=>r9 4 (-1000000000) 1000000000 w;rw[bY (by decide)] at hu;unfold fv at hu;refine Ord.X ?_;go_wp2_with fail;go_fit(hu _);rintro e u8 ⟨rfl,hbu⟩;have h8:=h7.trans (hbu.mono h7.size);go_wp2_with fail;refine cC h8 (fun h=>by cases h) ?_;refine PT ?_;clear hbu hu h7;have hu:=fun w=>mN 1 5 w;rw[bY (by decide)] at hu;unfold fv at hu;refine Ord.X ?_;go_wp2_with fail;go_fit(hu _);rintro e u9 ⟨rfl,hbu⟩;have h9:=h8.trans (hbu.mono h8.size);go_wp2_with fail;refine cC h9 (fun h=>by cases h) ?_;refine PT ?_;clear hbu hu h8;refine eA dX D (by kernel_rfl) D (by simp) (fun w' hS j v hv=>((show aV _ w8 w' from hS).cell (p:=⟨g1,0+j,J⟩) l1).trans (r1 j v hv)) h9 (by kernel_rfl) ?_
 refine PT ?_;refine eA dX D (by kernel_rfl) D (by simp) (fun w' hS j v hv=>((show aV _ w8 w' from hS).cell (p:=⟨g1,0+j,J⟩) l1).trans (r1 j v hv)) h9 (by kernel_rfl) ?_;refine PT ?_;refine eA dX D (by kernel_rfl) D (by simp) (fun w' hS j v hv=>((show aV _ w8 w' from hS).cell (p:=⟨g1,0+j,J⟩) l1).trans (r1 j v hv)) h9 (by kernel_rfl) ?_;refine PT ?_;have hu:=fun w=>r9 4 (-1800000000) 1800000000 w;rw[bY (by decide)] at hu;unfold fv at hu;refine Ord.X ?_;go_wp2_with fail;go_fit(hu _);rintro e u10 ⟨rfl,hbu⟩;have h10:=h9.trans (hbu.mono h9.size);go_wp2_with fail;refine cC h10 (fun h=>by cases h) ?_;refine PT ?_;clear hbu hu h9;have hu:=fun w=>r9 4 (-900000000) 900000000 w;rw[bY (by decide)] at hu;unfold fv at hu;refine Ord.X ?_;go_wp2_with fail;go_fit(hu _);rintro e u11 ⟨rfl,hbu⟩;have h11:=h10.trans (hbu.mono h10.size);go_wp2_with fail;refine cC h11 (fun h=>by cases h) ?_;refine PT ?_;clear hbu hu h10;refine eA dX D (by kernel_rfl) D (by simp) (fun w' hS j v hv=>((show aV _ w8 w' from hS).cell (p:=⟨g2,0+j,J⟩) l4).trans (r4 j v hv)) h11 (by kernel_rfl) ?_;refine PT ?_;refine eA dX D (by kernel_rfl) D (by simp) (fun w' hS j v hv=>((show aV _ w8 w' from hS).cell (p:=⟨g2,0+j,J⟩) l4).trans (r4 j v hv)) h11 (by kernel_rfl) ?_;refine PT ?_;refine eA dX D (by kernel_rfl) D (by simp) (fun w' hS j v hv=>((show aV _ w8 w' from hS).cell (p:=⟨g1+2,0+j,J⟩) l3).trans (r3 j v hv)) h11 (by kernel_rfl) ?_;refine PT ?_;refine eA dX D (by kernel_rfl) D (by simp) (fun w' hS j v hv=>((show aV _ w8 w' from hS).cell (p:=⟨g1+2,0+j,J⟩) l3).trans (r3 j v hv)) h11 (by kernel_rfl) ?_;refine PT ?_;refine eA dX D (by kernel_rfl) D (by simp) (fun w' hS j v hv=>((show aV _ w8 w' from hS).cell (p:=⟨g2,0+j,J⟩) l4).trans (r4 j v hv)) h11 (by kernel_rfl) ?_;refine PT ?_;refine eA dX D (by kernel_rfl) D (by simp) (fun w' hS j v hv=>((show aV _ w8 w' from hS).cell (p:=⟨g2,0+j,J⟩) l4).trans (r4 j v hv)) h11 (by kernel_rfl) ?_;refine PT ?_;refine eA dX D (by kernel_rfl) D (by simp) (fun w' hS j v hv=>((show aV _ w8 w' from hS).cell (p:=⟨g2,0+j,J⟩) l4).trans (r4 j v hv)) h11 (by kernel_rfl) ?_
 refine PT ?_;refine eA dX D (by kernel_rfl) D (by simp) (fun w' hS j v hv=>((show aV _ w8 w' from hS).cell (p:=⟨g2,0+j,J⟩) l4).trans (r4 j v hv)) h11 (by kernel_rfl) ?_;refine PT ?_;refine eA dX D (by kernel_rfl) D (by simp) (fun w' hS j v hv=>((show aV _ w8 w' from hS).cell (p:=⟨g3,0+j,J⟩) l5).trans (r5 j v hv)) h11 (by kernel_rfl) ?_;refine PT ?_;refine eA dX D (by kernel_rfl) D (by simp) (fun w' hS j v hv=>((show aV _ w8 w' from hS).cell (p:=⟨g1+2,0+j,J⟩) l3).trans (r3 j v hv)) h11 (by kernel_rfl) ?_;refine PT ?_;refine eA dX D (by kernel_rfl) D (by simp) (fun w' hS j v hv=>((show aV _ w8 w' from hS).cell (p:=⟨g1+2,0+j,J⟩) l3).trans (r3 j v hv)) h11 (by kernel_rfl) ?_;refine PT ?_;refine eA dX D (by kernel_rfl) D (by simp) (fun w' hS j v hv=>((show aV _ w8 w' from hS).cell (p:=⟨g1+1,0+j,J⟩) l2).trans (r2 j v hv)) h11 (by kernel_rfl) ?_;refine PT ?_;have hu:=fun w=>mN 2 31 w;rw[bY (by decide)] at hu;unfold fv at hu;refine Ord.X ?_;go_wp2_with fail;go_fit(hu _);rintro e u12 ⟨rfl,hbu⟩;have h12:=h11.trans (hbu.mono h11.size);go_wp2_with fail;refine cC h12 (fun h=>by cases h) ?_;refine PT ?_;clear hbu hu h11;have hu:=fun w=>mN 4 0 w;rw[bY (by decide)] at hu;unfold fv at hu;refine Ord.X ?_;go_wp2_with fail;go_fit(hu _);rintro e u13 ⟨rfl,hbu⟩;have h13:=h12.trans (hbu.mono h12.size);go_wp2_with fail;refine cC h13 (fun h=>by cases h) ?_;refine PT ?_;clear hbu hu h12;refine eA dX D (by kernel_rfl) D (by simp) (fun w' hS j v hv=>((show aV _ w8 w' from hS).cell (p:=⟨g3,0+j,J⟩) l5).trans (r5 j v hv)) h13 (by kernel_rfl) ?_;refine PT ?_;have hu:=fun w=>r9 2 (-18000) 18000 w;rw[bY (by decide)] at hu;unfold fv at hu;refine Ord.X ?_;go_wp2_with fail;go_fit(hu _);rintro e u14 ⟨rfl,hbu⟩;have h14:=h13.trans (hbu.mono h13.size);go_wp2_with fail;refine cC h14 (fun h=>by cases h) ?_;refine PT ?_;clear hbu hu h13;refine eA dX D (by kernel_rfl) D (by simp) (fun w' hS j v hv=>((show aV _ w8 w' from hS).cell (p:=⟨g1+1,0+j,J⟩) l2).trans (r2 j v hv)) h14 (by kernel_rfl) ?_;refine PT ?_;refine Ord.X ?_
 go_wp2;have hfin:=hb8.trans (h14.mono hb8.size);have zB:=hfin.size;have su:=IT u14 408 pvtF _ D (by simp[pvtF]) ax 33 D;obtain⟨A,n,c,he,hn,hr,hbz⟩:=su;have sw:=eI hfin hbz;have hz:=h14.trans (hbz.mono h14.size);refine cC hz (fun h=>by cases h) ?_;refine PT ?_;refine Ord.K ?_;refine cV ?_;clear hz hbz h14 r1 l1 r2 l2 r3 l3 r4 l4 r5 l5;go_wp2;go_ret;exact⟨A,n,c,he,hn,hr,sw⟩
end
section
open Go.RowKit NumLaw
attribute [local go_sem] Addr.add_mid
def pv(p:aW):aT:=aK (aE p)
theorem GA(F:Nat)(lb:Array aT)(heg: ∀args w,(callFunc F args).run bH w= .ok (.enter F args) w)(A:Option aW)(n c B:Nat)(ps:List aW)(w:aS)(I:Nat→aS→Prop)
  (h0:I 0 w) (hrd: ∀k w1,I k w1→Rd w1 B 1 A n c (ps.map pv))
  (Zc: ∀k p w1,ps[k]?=aE p→k<n→I k w1→aU bH F (#[O Y k,pv p]++lb) w1 fun e w'=>e=aJ (aN #[])∧I (k+1) w'):
  aU bH 431 #[.func (.func F) #[] lb,aL A n c] w fun e w'=>e=aJ (aN #[])∧I n w':=by
 have h:=hrd 0 w h0;have hle:=h.le;have hmx:=h.max;unfold bB at hmx;clear h;go_enter func431,ntmps431;go_wp2_with fail;go_loopw [8] (fun i wr=> ∃k:Nat,k≤n∧i=O Y k∧I k wr) (fun i _=>n-(bE i).toNat);case atStart=>exact⟨0,by omega,D,h0⟩
 case round=>
  obtain⟨k,hk,rfl,hI⟩:=hrel;by_cases fF:k<n
  ·obtain⟨ad,u,rfl,hu,hc⟩:=(hrd k wr hI).one fF;obtain⟨p,hp,rfl⟩: ∃p,ps[k]?=aE p∧pv p=u:=by simpa using hu
   have hs:=Zc k p wr hp fF hI;unfold pv at hs hc;clear hu hp;go_wp2_with fail;go_fit hs;rintro e w2 ⟨rfl,sx⟩;go_wp2;go_roundw;case rel=>exact⟨k+1,by omega,by go_num,sx⟩
   case measure=>simp[bE];omega
  ·obtain rfl:k=n:=by omega
   go_wp2
   ((try simp only[Exit.inBlock,Exit.then]);refine dC (cT D _ _ _) D ?_)
   exact⟨D,hI⟩
theorem RR{w:aS}{g e:Nat}{ps:List aW}(h:w.heap[g]?=aE (aI (ps.map pv).toArray e))(hm:ps.length≤bB):Rd w (g+1) 1 (aE ⟨g,0,J⟩) ps.length ps.length (ps.map pv):=by
 refine⟨by simp,bM _,hm,fun _=>⟨_,D,iO _,fun j u hu=> ?_⟩⟩;have e1:(⟨g,0,J⟩:aW).add j=⟨g,j,J⟩:=by unfold Addr.add;split<;>simp_all
 rw[e1];exact bL h (by simpa using hu)
def xY(xs:List Int):Array aT:=(xs.map (Value.int Y)).toArray
theorem FH{xs:List Int}{k:Nat}{x:Int}(h:xs[k]?=aE x):(xY xs)[k]?=aE (O Y x):=by simp[xY,h]
def xG(vs:List Int):List Int:=vs.take 29++vs.drop 30
theorem uZ{vs:List Int}(h:vs.length=33):(xG vs).length=32:=by simp[xG];omega
theorem JL{vs:List Int}(h:vs.length=33)(k:Nat):(xG vs)[k]?=if k<29 then vs[k]? else vs[k+1]?:=by
 have h1:(vs.take 29).length=29:=by simp;omega
 unfold xG;split
 ·rename_i hk;rw[List.getElem?_append_left (by omega),pN,bY hk]
 ·rename_i hk;rw[List.getElem?_append_right (by omega),h1,List.getElem?_drop];congr 1;omega
def zA(g gn:Nat):List aW:= [⟨g,0,J⟩,⟨g,1,J⟩,⟨g,2,J⟩,⟨g,3,J⟩,⟨g,4,J⟩,⟨g,5,J⟩,⟨g,6,J⟩,⟨g,7,J⟩,⟨g,8,J⟩,⟨g,9,J⟩,⟨g,10,J⟩,⟨g,11,J⟩,⟨g,12,J⟩,⟨g,13,J⟩,⟨g,14,J⟩,⟨g,15,J⟩,⟨g,16,J⟩,⟨g,17,J⟩,⟨g,18,J⟩,⟨g,19,J⟩,⟨g,20,J⟩,⟨g,21,J⟩,⟨g,22,J⟩,⟨g,23,J⟩,⟨g,24,J⟩,⟨g,25,J⟩,⟨g,26,J⟩,⟨g,27,J⟩,⟨g,28,J⟩,⟨gn,0,J⟩,⟨g,29,J⟩,⟨g,30,J⟩,⟨g,31,J⟩]
theorem cl(g gn k:Nat)(p:aW)(h:(zA g gn)[k]?=aE p):k<33∧p=if k<29 then⟨g,k,J⟩ else if k=29 then⟨gn,0,J⟩ else⟨g,k-1,J⟩:=by
 have hk:k<33:=by have:=(List.getElem?_eq_some_iff.1 h).1;simpa [zA] using this
 refine⟨hk,?_⟩
 match k,hk with
 |0,_=>simp[zA] at h;rw[←h];rfl
 |1,_=>simp[zA] at h;rw[←h];rfl
 |2,_=>simp[zA] at h;rw[←h];rfl
 |3,_=>simp[zA] at h;rw[←h];rfl
 |4,_=>simp[zA] at h;rw[←h];rfl
 |5,_=>simp[zA] at h;rw[←h];rfl
 |6,_=>simp[zA] at h;rw[←h];rfl
 |7,_=>simp[zA] at h;rw[←h];rfl
 |8,_=>simp[zA] at h;rw[←h];rfl
 |9,_=>simp[zA] at h;rw[←h];rfl
 |10,_=>simp[zA] at h;rw[←h];rfl
 |11,_=>simp[zA] at h;rw[←h];rfl
 |12,_=>simp[zA] at h;rw[←h];rfl
 |13,_=>simp[zA] at h;rw[←h];rfl
 |14,_=>simp[zA] at h;rw[←h];rfl
 |15,_=>simp[zA] at h;rw[←h];rfl
 |16,_=>simp[zA] at h;rw[←h];rfl
 |17,_=>simp[zA] at h;rw[←h];rfl
 |18,_=>simp[zA] at h;rw[←h];rfl
 |19,_=>simp[zA] at h;rw[←h];rfl
 |20,_=>simp[zA] at h;rw[←h];rfl
 |21,_=>simp[zA] at h;rw[←h];rfl
 |22,_=>simp[zA] at h;rw[←h];rfl
 |23,_=>simp[zA] at h;rw[←h];rfl
 |24,_=>simp[zA] at h;rw[←h];rfl
 |25,_=>simp[zA] at h;rw[←h];rfl
 |26,_=>simp[zA] at h;rw[←h];rfl
 |27,_=>simp[zA] at h;rw[←h];rfl
 |28,_=>simp[zA] at h;rw[←h];rfl
 |29,_=>simp[zA] at h;rw[←h];rfl
 |30,_=>simp[zA] at h;rw[←h];rfl
 |31,_=>simp[zA] at h;rw[←h];rfl
 |32,_=>simp[zA] at h;rw[←h];rfl
theorem Vj(g gn:Nat)(w:aS):aU bH 433 #[aK (aE ⟨g,0,J⟩),aK (aE ⟨gn,0,J⟩)] w fun e w'=>e=aJ (aL (aE ⟨w.heap.size,0,J⟩) 33 33)∧w'.heap[w.heap.size]?=aE (aI ((zA g gn).map pv).toArray 614)∧aV w.heap.size w w':=by
 go_enter func433,ntmps433;go_wp2_with fail;simp only[List.append_eq,dS,eF];refine cQ (fun _=>True) aD [] (by kernel_rfl) (by kernel_rfl) cM ?_;have hb0:aV w.heap.size w w.drew:=(bP _ _).drew;have wT:w.drew.heap.size=w.heap.size:=D;have Hs0:=bK wT;clear wT;generalize w.drew=w1 at*;iterate 97 refine Ord.K ?_
 refine Ord.X ?_;go_wp2;have hn:=bS w1 (aI ((zA g gn).map pv).toArray 614);rw[Hs0.out] at hn;have hbn:=hb0.alloc hb0.size (aI ((zA g gn).map pv).toArray 614);refine cC cM (fun h=>by cases h) ?_;refine PT ?_;rw[Hs0.out];refine Ord.K ?_;refine cV ?_;go_wp2;go_ret;exact⟨D,hn,hbn⟩
abbrev uH:=@List.map_set
def Aa(vs:List Int):Bool:=decide (vs.length=33∧vs[29]?=aE 0)
def Wv(vs:List Int):List Int:=if Aa vs=aF then xG vs else List.replicate 32 0
def zN(vs:List Int)(k:Nat):List Int:=vs.take k++List.replicate (33-k) 0
theorem Fb{vs:List Int}(h:vs.length=33){k:Nat}(hk:k≤33):(zN vs k).length=33:=by simp[zN];omega
theorem I7{vs:List Int}(h:vs.length=33){k:Nat}(hk:k≤33)(j:Nat)(hj:j<33):(zN vs k)[j]?=if j<k then vs[j]? else aE 0:=by
 have h1:(vs.take k).length=k:=by simp;omega
 unfold zN;split
 ·rename_i XE;rw[List.getElem?_append_left (by omega),pN,bY XE]
 ·rename_i XE;rw[List.getElem?_append_right (by omega),List.getElem?_replicate,bY (by omega)]
def zp(g:Nat)(vs:List Int)(w1:aS)(k:Nat)(w':aS):Prop:=
 w'.heap[g]?=aE (aI (xY (xG (zN vs k))) 53)∧w'.heap[g+1]?=aE (aI #[O Y ((zN vs k).getD 29 0)] 2)∧Aw (fun b=>b=g∨b=g+1) w1 w'
theorem Xl(xs:List Int)(j:Nat)(x:Int):(xY xs).setIfInBounds j (O Y x)=xY (xs.set j x):=by
 unfold xY;rw[cE,uH]
theorem Oo(k gS:Nat)(p:aW)(x:Int)(u:aT)(A:Option aW)(n c B:Nat)(vs:List Int)(w:aS)(hk:k<n)(hx:vs[k]?=aE x)(hS:w.heap[gS]?=aE (aI #[aL A n c] 47))(h:Rd w B 1 A n c (vs.map (Value.int Y)))
  (hp:w.cell? p=aE u) (hf:w.frozen? p=aD):
  aU bH 434 #[O Y k,aK (aE p),aK (aE ⟨gS,0,J⟩)] w fun e w'=>e=aJ (aN #[])∧w'=w.setCell p (O Y x):=by
 have hle:=h.le;have hmx:=h.max;unfold bB at hmx;obtain⟨ad,y,rfl,hy,hc,_⟩:=Fc h hk;rw[hx] at hy;injection hy with hy;subst hy;have c1:=bL (i:=0) (v:=aL (aE ad) n c) hS D;clear hx h hS;go_enter func434,ntmps434;go_wp2
 ((try simp only[Exit.inBlock,Exit.then]);refine dC (cT D _ _ _) D ?_)
 exact⟨D,D⟩
theorem C5{a b:List Int}{n:Nat}(ha:a.length=n)(hb:b.length=n)(h: ∀j,j<n→a[j]?=b[j]?):a=b:=by
 apply List.ext_getElem?;intro j;rcases iD j n with hj|hj
 ·exact h j hj
 ·rw[nK (by omega),nK (by omega)]
theorem B8{vs:List Int}(h:vs.length=33){k:Nat}(hk:k≤33){j:Nat}(hj:j<32):(xG (zN vs k))[j]?=if j<29 then(if j<k then vs[j]? else aE 0) else(if j+1<k then vs[j+1]? else aE 0):=by
 rw[JL (Fb h hk)];split
 ·rw[I7 h hk j (by omega)]
 ·rw[I7 h hk (j+1) (by omega)]
theorem Ax{vs:List Int}(h:vs.length=33){k:Nat}(hk:k≤33):(zN vs k).getD 29 0=if 29<k then vs.getD 29 0 else 0:=by
 have:=I7 h hk 29 (by omega);unfold List.getD;rw[this];split<;>rfl
theorem QO(g gS:Nat)(A:Option aW)(n c B:Nat)(vs:List Int)(w1:aS)(hl:vs.length=33)(hn:n=33)(a0:w1.heap[gS]?=aE (aI #[aL A n c] 47))(h:Rd w1 B 1 A n c (vs.map (Value.int Y)))(hB:B≤g)(hB2:B≤w1.heap.size)(Nb:gS<g)
  (k:Nat) (p:aW) (w':aS) (hp:(zA g (g+1))[k]?=aE p) (hk:k<33) (hI:zp g vs w1 k w'):
  aU bH 434 (#[O Y k,pv p]++ #[aK (aE ⟨gS,0,J⟩)]) w' fun e w2=>e=aJ (aN #[])∧zp g vs w1 (k+1) w2:=by
 subst hn;obtain⟨i1,i2,i3⟩:=hI;obtain⟨_,OE⟩:=cl g (g+1) k p hp;have q0:=i3.keep a0 (by omega);have fF:k<vs.length:=by omega
 have hx:vs[k]?=aE vs[k]:=cF fF;generalize vs[k]=x at hx
 have hrd:Rd w' B 1 A 33 c (vs.map (Value.int Y)):=h.keep (fun p hp=>by
  rw[World.cell?,World.cell?,i3.block _ (by omega) (by omega)])
 have hL:=uZ (Fb hl (show k≤33 by omega));have CS:=uZ (Fb hl (show k+1≤33 by omega));by_cases h1:k<29
 ·rw[bY h1] at OE;have hu:(xG (zN vs k))[k]?=aE _:=cF (by omega);have hc:=bL i1 (FH hu);have hf:=bZ (i:=k) i1;rw[←OE] at hc hf;refine(Oo k gS p x _ A 33 c B vs w' hk hx q0 hrd hc hf).mono ?_;rintro e w2 ⟨he,rfl⟩;rw[OE];have s1:=cN (i:=k) i1 (O Y x);rw[Xl] at s1;refine⟨he,?_,?_,i3.set _ (.inl D)⟩
  ·rw[s1];congr 2;refine gD xY ?_;refine C5 (n:=32) (by rw[jQ];exact hL) CS (fun j hj=> ?_);rw[List.getElem?_set,B8 hl (show k+1≤33 by omega) hj,B8 hl (show k≤33 by omega) hj,hL];by_cases XE:k=j
   ·subst XE;rw[bY D,bY hj,bY h1,bY (by omega),hx]
   ·rw[bX XE];split
    ·by_cases F8:j<k
     ·rw[bY F8,bY (by omega)]
     ·rw[bX F8,bX (by omega)]
    ·rw[bX (by omega),bX (by omega)]
  ·have:=((cY (fun b=>b=g) w').set (p:=⟨g,k,J⟩) (O Y x) D).keep i2 (by omega);rw[this,Ax hl (show k+1≤33 by omega),Ax hl (show k≤33 by omega),bX (by omega),bX (by omega)]
 ·rw[bX h1] at OE;by_cases h2:k=29
  ·rw[bY h2] at OE;subst h2;have hc:=bL (i:=0) (v:=O Y ((zN vs 29).getD 29 0)) i2 D;have hf:=bZ (i:=0) i2;rw[←OE] at hc hf;refine(Oo 29 gS p x _ A 33 c B vs w' hk hx q0 hrd hc hf).mono ?_;rintro e w2 ⟨he,rfl⟩;rw[OE];have s1:=cN (i:=0) i2 (O Y x);refine⟨he,?_,?_,i3.set _ (.inr D)⟩
   ·have:=((cY (fun b=>b=g+1) w').set (p:=⟨g+1,0,J⟩) (O Y x) D).keep i1 (by omega);rw[this];congr 2;refine gD xY ?_;refine C5 (n:=32) hL CS (fun j hj=> ?_);rw[B8 hl (show 29+1≤33 by omega) hj,B8 hl (show 29≤33 by omega) hj];split
    ·rw[bY (by omega)]
    ·rw[bX (by omega),bX (by omega)]
   ·rw[s1,Ax hl (show 29+1≤33 by omega),bY (by omega)];congr 2;show #[Value.int Y x]=_;unfold List.getD;rw[hx];rfl
  ·rw[bX h2] at OE;have hu:(xG (zN vs k))[k-1]?=aE _:=cF (by omega);have hc:=bL i1 (FH hu);have hf:=bZ (i:=k-1) i1;rw[←OE] at hc hf;refine(Oo k gS p x _ A 33 c B vs w' hk hx q0 hrd hc hf).mono ?_;rintro e w2 ⟨he,rfl⟩;rw[OE];have s1:=cN (i:=k-1) i1 (O Y x);rw[Xl] at s1;refine⟨he,?_,?_,i3.set _ (.inl D)⟩
   ·rw[s1];congr 2;refine gD xY ?_;refine C5 (n:=32) (by rw[jQ];exact hL) CS (fun j hj=> ?_);rw[List.getElem?_set,B8 hl (show k+1≤33 by omega) hj,B8 hl (show k≤33 by omega) hj,hL];by_cases XE:k-1=j
    ·subst XE;rw[bY D,bY hj,bX (by omega),bY (by omega),show k-1+1=k by omega,hx]
    ·rw[bX XE];split
     ·rw[bY (by omega),bY (by omega)]
     ·by_cases F8:j+1<k
      ·rw[bY F8,bY (by omega)]
      ·rw[bX F8,bX (by omega)]
   ·have:=((cY (fun b=>b=g) w').set (p:=⟨g,k-1,J⟩) (O Y x) D).keep i2 (by omega);rw[this,Ax hl (show k+1≤33 by omega),Ax hl (show k≤33 by omega),bY (by omega),bY (by omega)]
abbrev mF:=@underlying53
def pz:List Int:=List.replicate 32 0
theorem ks:(#[O Y 0,O Y 0,O Y 0,O Y 0,O Y 0,O Y 0,O Y 0,O Y 0,O Y 0,O Y 0,O Y 0,O Y 0,O Y 0,O Y 0,O Y 0,O Y 0,O Y 0,O Y 0,O Y 0,O Y 0,O Y 0,O Y 0,O Y 0,O Y 0,O Y 0,O Y 0,O Y 0,O Y 0,O Y 0,O Y 0,O Y 0,O Y 0]:Array aT)=xY pz:=rfl
theorem qW(xs:List Int):(xY xs).size=xs.length:=by simp[xY]
theorem Nl(xs:List Int):(xY xs).all (·.oneCell')=aF:=by
 rw[Array.all_eq_true];intro i h;simp[xY];rfl
theorem xP:(Tryz.prog.info? 53).map (·.size)=aE 32:=by kernel_rfl
def ZC(vs:List Int)(w:aS)(e:aX)(w':aS):Prop:=e=aJ (aN #[aM (xY (Wv vs)),aG (Aa vs)])∧aV w.heap.size w w'
theorem br(A:Option aW)(n c B:Nat)(vs:List Int)(w:aS)(h:Rd w B 1 A n c (vs.map (Value.int Y)))(hB:B≤w.heap.size):
  aU bH 428 #[aL A n c] w (ZC vs w):=by
 have E8:vs.length=n:=by have:=h.len;simpa using this
 have hle:=h.le;have hmx:=h.max;unfold bB at hmx;obtain⟨a0,a1,a2,a3,hs,hb⟩:=wh w (aI #[aL A n c] 47) (aI #[O Y 0,O Y 0,O Y 0,O Y 0,O Y 0,O Y 0,O Y 0,O Y 0,O Y 0,O Y 0,O Y 0,O Y 0,O Y 0,O Y 0,O Y 0,O Y 0,O Y 0,O Y 0,O Y 0,O Y 0,O Y 0,O Y 0,O Y 0,O Y 0,O Y 0,O Y 0,O Y 0,O Y 0,O Y 0,O Y 0,O Y 0,O Y 0] 53) (aI #[O Y 0,O Y 0,O Y 0,O Y 0,O Y 0,O Y 0,O Y 0,O Y 0,O Y 0,O Y 0,O Y 0,O Y 0,O Y 0,O Y 0,O Y 0,O Y 0,O Y 0,O Y 0,O Y 0,O Y 0,O Y 0,O Y 0,O Y 0,O Y 0,O Y 0,O Y 0,O Y 0,O Y 0,O Y 0,O Y 0,O Y 0,O Y 0] 53) (aI #[O Y 0] 2);have hr1:=h.up (hb.mono hB);have Hs:=bK hs;have Hlv:=bK E8;have hz:=ks;have Hz:=bK hz;obtain⟨oV,hoV⟩: ∃v,v=Wv vs:=⟨_,D⟩;obtain⟨oK,hoK⟩: ∃v,v=Aa vs:=⟨_,D⟩;unfold ZC;rw[←hoV,←hoK];have HoV:=bK hoV;have HoK:=bK hoK;clear hs E8 hz hoV hoK;go_enter func428,ntmps428;go_wp2_with fail;generalize((((w.alloc (aI #[aL A n c] 47)).alloc (aI #[O Y 0,O Y 0,O Y 0,O Y 0,O Y 0,O Y 0,O Y 0,O Y 0,O Y 0,O Y 0,O Y 0,O Y 0,O Y 0,O Y 0,O Y 0,O Y 0,O Y 0,O Y 0,O Y 0,O Y 0,O Y 0,O Y 0,O Y 0,O Y 0,O Y 0,O Y 0,O Y 0,O Y 0,O Y 0,O Y 0,O Y 0,O Y 0] 53)).alloc (aI #[O Y 0,O Y 0,O Y 0,O Y 0,O Y 0,O Y 0,O Y 0,O Y 0,O Y 0,O Y 0,O Y 0,O Y 0,O Y 0,O Y 0,O Y 0,O Y 0,O Y 0,O Y 0,O Y 0,O Y 0,O Y 0,O Y 0,O Y 0,O Y 0,O Y 0,O Y 0,O Y 0,O Y 0,O Y 0,O Y 0,O Y 0,O Y 0] 53)).alloc (aI #[O Y 0] 2))=w1 at*;have Am:=Vj (w.heap.size+2) (w.heap.size+3) w1;rw[Hs.out] at Am;go_fit Am;rintro e w2 ⟨rfl,a4,hb12⟩;have hb2:=hb.trans (hb12.mono (by omega));rw[Hz.out] at a1 a2;have q0:=(hb12.block _ (by omega)).trans a0;have q1:=(hb12.block _ (by omega)).trans a1;have q2:=(hb12.block _ (by omega)).trans a2;have q3:=(hb12.block _ (by omega)).trans a3;have DH:=bT a4;have hr2:=hr1.up (hb12.mono (by omega));have k0:=bL (i:=0) (v:=aL A n c) q0 D;clear a0 a1 a2 a3 hb12 hb Am hr1 h
 have fin: ∀(w9:aS) (x:List Int),w9.heap[w.heap.size+1]?=aE (aI (xY x) 53)→x.length=32→aV w.heap.size w w9→∀(tmps:Array aT),tmps.getD 2 undef=aK (aE ⟨w.heap.size+1,0,J⟩)→∀b:Bool,tmps.getD 3 undef=aG b→oV=x→oK=b→
   bodyPost bH Tryz.f428 (fun e w'=>e=aJ (aN #[aM (xY oV),aG oK])∧aV w.heap.size w w') Exit.ret { tmps:=tmps,defers:= [] } w9:=by
  intro w9 x h1 hx h2 tmps ht b hb3 e1 e2;subst e1;subst e2;have hr:=cD (P:=bH) Tryz.results428 tmps w9 (w.heap.size+1) 53 _ (0,0) _ ht h1 mF D (by rw[qW,hx,xP]);rw[hb3] at hr;exact bR hr D ⟨D,h2⟩
 have Fin:=bK fin;clear fin;by_cases hn:n=33
 ·have E8:vs.length=33:=by rw[Hlv.out,hn]
  have XF:=GA 434 #[aK (aE ⟨w.heap.size,0,J⟩)] (fun _ _=>by kernel_rfl) (aE ⟨w.heap.size+4,0,J⟩) 33 33 (w.heap.size+5) (zA (w.heap.size+2) (w.heap.size+3)) w2
   (zp (w.heap.size+2) vs w2) ⟨by rw[q2];rfl,by rw[q3];rfl,cY _ _⟩
   (fun k w' hI=>RR (ps:=zA (w.heap.size+2) (w.heap.size+3)) (hI.2.2.keep a4 (by omega)) (by simp[zA,bB]))
   (fun k p w' hp hk hI=>QO (w.heap.size+2) w.heap.size A n c B vs w2 E8 hn q0 hr2 (by omega) (by omega) (by omega) k p w' hp hk hI)
  have Heach:=bK XF;have Hlv2:=bK E8;subst hn;clear XF E8;go_wp2_with fail;go_fit Heach.out;rintro e w3 ⟨rfl,i1,i2,i3⟩;have hb3:=hb2.trans ⟨i3.os,i3.tape,i3.output,i3.size,fun k hk=>i3.block k (by have:=hb2.size;omega) (by omega)⟩;have p1:=i3.keep q1 (by omega);have ec:zN vs 33=vs:=by unfold zN;rw[List.take_of_length_le (by rw[Hlv2.out];omega)];simp
  rw[ec] at i1 i2;obtain⟨z,hz⟩: ∃z,z=vs.getD 29 0:=⟨_,D⟩;rw[←hz] at i2
  have Gc:vs[29]?=aE z:=by
   have fF:29<vs.length:=by rw[Hlv2.out];omega
   rw[hz];unfold List.getD;rw[cF fF];rfl
  have Hz2:=bK Gc;have n0:=bL (i:=0) (v:=O Y z) i2 D;clear ec hz Gc i2 i3 q0 q1 q2 q3 hb2 a4 DH hr2 k0;by_cases hz0:z=0
  ·subst hz0;have hok:Aa vs=aF:=by unfold Aa;exact dU ⟨Hlv2.out,Hz2.out⟩
   have e1:oV=xG vs:=by rw[HoV.out];unfold Wv;rw[bY hok]
   have e2:oK=aF:=by rw[HoK.out,hok]
   have E:=bK (bO e1 e2);clear hok e1 e2;go_wp2_with(with_reducible refine sT [53] ?_);refine eL (wpList_load_row D _ _ D (w.heap.size+2) D _ _ _ _ i1 mF D (by rw[qW,uZ Hlv2.out,xP]) ?_);go_wp2_with(with_reducible refine sT [53] ?_);refine eL (wpList_store_row D _ _ _ D (w.heap.size+1) (xY (xG vs)) D D _ _ p1 (by rw[qW,uZ Hlv2.out,xP]) (by rw[qW,qW,uZ Hlv2.out];rfl) (Nl _) ?_);have hb5:=below_setRow hb3 (show w.heap.size≤w.heap.size+1 by omega) (xY (xG vs));have cS:=setRow_heap _ _ _ (xY (xG vs)) _ _ p1;generalize(w3.setRow (w.heap.size+1) (xY (xG vs)))=w5 at*;go_wp2;exact Fin.out _ _ cS (uZ Hlv2.out) hb5 _ D _ D E.out.1 E.out.2
  ·have hok:Aa vs=aD:=by unfold Aa;exact dN (fun h=>hz0 (by have:=Hz2.out;rw[h.2] at this;injection this with this;exact this.symm))
   have e1:oV=pz:=by rw[HoV.out];unfold Wv;rw[bX (by rw[hok];simp)];rfl
   have e2:oK=aD:=by rw[HoK.out,hok]
   have E:=bK (bO e1 e2);clear hok e1 e2;go_wp2_with(with_reducible refine sT [53] ?_);refine eL (wpList_store_row D _ _ _ D (w.heap.size+1) (xY pz) D D _ _ p1 (by kernel_rfl) D (by kernel_rfl) ?_);have hb5:=below_setRow hb3 (show w.heap.size≤w.heap.size+1 by omega) (xY pz);have cS:=setRow_heap _ _ _ (xY pz) _ _ p1;generalize(w3.setRow (w.heap.size+1) (xY pz))=w5 at*;go_wp2;exact Fin.out _ _ cS D hb5 _ D _ D E.out.1 E.out.2
 ·have hok:Aa vs=aD:=by unfold Aa;exact dN (fun h=>hn (by rw[←Hlv.out];exact h.1))
  have e1:oV=pz:=by rw[HoV.out];unfold Wv;rw[bX (by rw[hok];simp)];rfl
  have e2:oK=aD:=by rw[HoK.out,hok]
  have E:=bK (bO e1 e2);clear hok e1 e2;go_wp2_with(with_reducible refine sT [53] ?_);refine eL (wpList_store_row D _ _ _ D (w.heap.size+1) (xY pz) D D _ _ q1 (by kernel_rfl) D (by kernel_rfl) ?_);have hb5:=below_setRow hb2 (show w.heap.size≤w.heap.size+1 by omega) (xY pz);have cS:=setRow_heap _ _ _ (xY pz) _ _ q1;generalize(w2.setRow (w.heap.size+1) (xY pz))=w5 at*;go_wp2;exact Fin.out _ _ cS D hb5 _ D _ D E.out.1 E.out.2
end
section
open Go.RowKit NumLaw
def zU(b:List UInt8):List Int:=if jM pvtF b=0 then xG (uT pvtF b) else pz
theorem KJ:pvtF.length=33:=by decide+kernel
theorem Uk{b:List UInt8}(h:jM pvtF b=0):Aa (uT pvtF b)=aF:=by
 obtain⟨h1,h2,h3⟩:=sU h;have hl:(uT pvtF b).length=33:=by rw[h3,KJ]
 have Bs:tI pvtF (uT pvtF b)=aF:=by
  unfold My at h1;split at h1
  ·split at h1
   ·assumption
   ·cases h1
  ·cases h1
 have fF:29<(uT pvtF b).length:=by omega
 have hf:pvtF[29]?=aE ⟨4,aD,0,0⟩:=by rfl
 have hx:(uT pvtF b)[29]?=aE (uT pvtF b)[29]:=cF fF;have hm:((⟨4,aD,0,0⟩:eK),(uT pvtF b)[29])∈pvtF.zip (uT pvtF b):=dD (i:=29) (by rw[jY];exact⟨hf,hx⟩);have:=List.all_eq_true.1 Bs _ hm;have:=eZ this;simp only at this;unfold Aa;refine dU ⟨hl,?_⟩;rw[hx];congr 1;omega
theorem wS(b:List UInt8):(zU b).length=32:=by
 unfold zU;split
 ·rename_i h;have:=Uk h;unfold Aa at this;exact uZ (eZ this).1
 ·rfl
theorem AM{b:List UInt8}(h:jM pvtF b=0):Wv (uT pvtF b)=zU b:=by unfold Wv zU;rw[bY (Uk h),bY h]
theorem T6{b:List UInt8}(h:jM pvtF b≠0):zU b=pz:=by unfold zU;rw[bX h]
def VY(b:List UInt8)(w:aS)(e:aX)(w':aS):Prop:=e=aJ (aN #[aM (xY (zU b)),O Y (jM pvtF b:Int)])∧aV w.heap.size w w'
theorem Sh(A:Option aW)(n c B:Nat)(b:List UInt8)(w:aS)(h':Rd w B 1 A n c (bv b))(hB:B≤w.heap.size)(hn:n≤1000000000):
  aU bH 425 #[aL A n c] w (VY b w):=by
 obtain⟨oE,wE⟩: ∃oE,oE=jM pvtF b:=⟨_,D⟩;obtain⟨oT,DR⟩: ∃oT,oT=zU b:=⟨_,D⟩;unfold VY;rw[←wE,←DR];have HoE:=bK wE;have HoT:=bK DR;clear wE DR;have hb1:aV w.heap.size w (w.alloc (aI #[O Y 0,O Y 0,O Y 0,O Y 0,O Y 0,O Y 0,O Y 0,O Y 0,O Y 0,O Y 0,O Y 0,O Y 0,O Y 0,O Y 0,O Y 0,O Y 0,O Y 0,O Y 0,O Y 0,O Y 0,O Y 0,O Y 0,O Y 0,O Y 0,O Y 0,O Y 0,O Y 0,O Y 0,O Y 0,O Y 0,O Y 0,O Y 0] 53)):=(bP _ _).alloc (bM _) _;have hres:=bS w (aI #[O Y 0,O Y 0,O Y 0,O Y 0,O Y 0,O Y 0,O Y 0,O Y 0,O Y 0,O Y 0,O Y 0,O Y 0,O Y 0,O Y 0,O Y 0,O Y 0,O Y 0,O Y 0,O Y 0,O Y 0,O Y 0,O Y 0,O Y 0,O Y 0,O Y 0,O Y 0,O Y 0,O Y 0,O Y 0,O Y 0,O Y 0,O Y 0] 53)
 have fin: ∀(w9:aS) (x:List Int),w9.heap[w.heap.size]?=aE (aI (xY x) 53)→x.length=32→aV w.heap.size w w9→∀(tmps:Array aT),tmps.getD 2 undef=aK (aE ⟨w.heap.size,0,J⟩)→∀b:Int,tmps.getD 3 undef=O Y b→oT=x→(oE:Int)=b→
   bodyPost bH Tryz.f425 (fun e w'=>e=aJ (aN #[aM (xY oT),O Y oE])∧aV w.heap.size w w') Exit.ret { tmps:=tmps,defers:= [] } w9:=by
  intro w9 x h1 hx h2 tmps ht b hb3 e1 e2;subst e1;subst e2;have hr:=cD (P:=bH) Tryz.results425 tmps w9 w.heap.size 53 _ (0,0) _ ht h1 mF D (by rw[qW,hx,xP]);rw[hb3] at hr;exact bR hr D ⟨D,h2⟩
 have Fin:=bK fin;clear fin;go_enter func425,ntmps425;go_wp2_with fail;generalize(w.alloc (aI #[O Y 0,O Y 0,O Y 0,O Y 0,O Y 0,O Y 0,O Y 0,O Y 0,O Y 0,O Y 0,O Y 0,O Y 0,O Y 0,O Y 0,O Y 0,O Y 0,O Y 0,O Y 0,O Y 0,O Y 0,O Y 0,O Y 0,O Y 0,O Y 0,O Y 0,O Y 0,O Y 0,O Y 0,O Y 0,O Y 0,O Y 0,O Y 0] 53))=w1 at*;have fF:=bT hres;go_fit(O7 w1);rintro e w2 ⟨Af,nf,cf,rfl,xg,Gu,hb12⟩;have hb2:=eI hb1 hb12;replace hres:=bV hres hb12 fF;go_wp2_with fail;go_fit(qR Af nf cf w2.heap.size pvtF A n c B b w2 Gu (bM _) (h'.up (hb2.mono hB)) (bU hB hb2.size) (by omega) (by omega));rw[←HoE.out];rintro e w3 ⟨At,nt,ct,rfl,hown,hb23⟩;have hb3:=eI hb2 hb23;replace hres:=bV hres hb23 (by have:=hb12.size;omega);clear hb1 hb12 hb2 hb23 Gu fF;by_cases he:oE=0
 ·have hte:jM pvtF b=0:=by rw[←HoE.out];exact he
  have J5:=br At nt ct w3.heap.size (uT pvtF b) w3 (oA hown) (bM _);unfold ZC at J5;rw[AM hte,←HoT.out,Uk hte] at J5;have Hof:=bK J5;have HtL:Hid (oT.length=32):=bK (by rw[HoT.out,wS]);subst he;clear J5 hte hown;go_wp2_with(with_reducible refine sT [53] ?_);go_fit Hof.out;rintro e w4 ⟨rfl,hb34⟩;have hb4:=eI hb3 hb34;replace hres:=bV hres hb34 (bT hres);have q1:=bS w4 (aI #[O Y 0,O Y 0,O Y 0,O Y 0,O Y 0,O Y 0,O Y 0,O Y 0,O Y 0,O Y 0,O Y 0,O Y 0,O Y 0,O Y 0,O Y 0,O Y 0,O Y 0,O Y 0,O Y 0,O Y 0,O Y 0,O Y 0,O Y 0,O Y 0,O Y 0,O Y 0,O Y 0,O Y 0,O Y 0,O Y 0,O Y 0,O Y 0] 53);have hb5:=hb4.alloc hb4.size (aI #[O Y 0,O Y 0,O Y 0,O Y 0,O Y 0,O Y 0,O Y 0,O Y 0,O Y 0,O Y 0,O Y 0,O Y 0,O Y 0,O Y 0,O Y 0,O Y 0,O Y 0,O Y 0,O Y 0,O Y 0,O Y 0,O Y 0,O Y 0,O Y 0,O Y 0,O Y 0,O Y 0,O Y 0,O Y 0,O Y 0,O Y 0,O Y 0] 53);have hne:w4.heap.size≠w.heap.size:=by have:=bT hres;omega
  replace hres:=(heap_alloc_old w4 (aI #[O Y 0,O Y 0,O Y 0,O Y 0,O Y 0,O Y 0,O Y 0,O Y 0,O Y 0,O Y 0,O Y 0,O Y 0,O Y 0,O Y 0,O Y 0,O Y 0,O Y 0,O Y 0,O Y 0,O Y 0,O Y 0,O Y 0,O Y 0,O Y 0,O Y 0,O Y 0,O Y 0,O Y 0,O Y 0,O Y 0,O Y 0,O Y 0] 53) (h:=bT hres)).trans hres;have zB:=hb4.size;clear hb3 hb34 hb4;go_wp2_with(with_reducible refine sT [53] ?_);generalize(w4.alloc (aI #[O Y 0,O Y 0,O Y 0,O Y 0,O Y 0,O Y 0,O Y 0,O Y 0,O Y 0,O Y 0,O Y 0,O Y 0,O Y 0,O Y 0,O Y 0,O Y 0,O Y 0,O Y 0,O Y 0,O Y 0,O Y 0,O Y 0,O Y 0,O Y 0,O Y 0,O Y 0,O Y 0,O Y 0,O Y 0,O Y 0,O Y 0,O Y 0] 53))=w5 at*;refine eL (wpList_store_row D _ _ _ D w4.heap.size (xY oT) D D _ _ q1 (by rw[qW,HtL.out,xP]) (by rw[qW,HtL.out];rfl) (Nl _) ?_);have hb6:=below_setRow hb5 zB (xY oT);have q2:=setRow_heap _ _ _ (xY oT) _ _ q1;have iW:(w5.setRow w4.heap.size (xY oT)).heap[w.heap.size]?=_:=((below_setRow (bP (w.heap.size+1) w5) (show w.heap.size+1≤w4.heap.size by omega) (xY oT)).block w.heap.size (by omega)).trans hres;generalize(w5.setRow w4.heap.size (xY oT))=w6 at*;clear q1 hb5 hres;go_wp2_with(with_reducible refine sT [53] ?_);refine eL (wpList_load_row D _ _ D w4.heap.size D _ _ _ _ q2 mF D (by rw[qW,HtL.out,xP]) ?_);go_wp2_with(with_reducible refine sT [53] ?_);refine eL (wpList_store_row D _ _ _ D w.heap.size (xY oT) D D _ _ iW (by rw[qW,HtL.out,xP]) (by rw[qW,HtL.out];rfl) (Nl _) ?_);have hb7:=below_setRow hb6 (bM _) (xY oT);have gQ:=setRow_heap _ _ _ (xY oT) _ _ iW;generalize(w6.setRow w.heap.size (xY oT))=w7 at*;go_wp2;exact Fin.out _ _ gQ HtL.out hb7 _ D _ D D D
 ·have zZ: ¬(oE:Int)=0:=by omega
  have hT:Hid (oT=pz):=bK (by rw[HoT.out];exact T6 (by rw[←HoE.out];exact he));clear hown;go_wp2_with(with_reducible refine sT [53] ?_);refine eL (wpList_store_row D _ _ _ D w.heap.size (xY pz) D D _ _ hres (by kernel_rfl) D (by kernel_rfl) ?_);have hb5:=below_setRow hb3 (bM _) (xY pz);have cS:=setRow_heap _ _ _ (xY pz) _ _ hres;generalize(w3.setRow w.heap.size (xY pz))=w5 at*;go_wp2;exact Fin.out _ _ cS D hb5 _ D _ D hT.out D
end
section
open Go.RowKit
abbrev oN:=@Array.length_toList
def RW(w:aS)(g:Nat)(t:aY)(rows:List (List aT)):Prop:=w.heap[g]?=aE (aI rows.flatten.toArray t (0,0))
section
variable {w w':World} {g:Nat} {t:TypeId} {rows:List (List Value)} {size:Nat}
theorem RW.at_(h:RW w g t rows)(ha: ∀r∈rows,r.length=size){k:Nat}{r:List aT}(hk:rows[k]?=aE r):w.rangeAt g (k*size) r:=fun j v hv=>by
 have hj:j<r.length:=(List.getElem?_eq_some_iff.1 hv).1;have hr:=ha r (dD hk);refine bL (cs:=rows.flatten.toArray) h ?_;rw[dO,Dm rows k j r ha hk (by omega)];exact hv
theorem RW.there(h:RW w g t rows)(ha: ∀r∈rows,r.length=size){k:Nat}{r:List aT}(hk:rows[k]?=aE r){n:Nat}(hn:n=size):w.there g (k*size) n:=fun j hj=>by
 subst hn;have hr:=ha r (dD hk);have:=h.at_ ha hk j _ (cF (by omega));exact⟨by rw[this];rfl,bZ (cs:=rows.flatten.toArray) h⟩
theorem Cg(g:Nat): ∀(vs:List aT) (o:Nat) (w:aS) (l:List aT) (t:aY),w.heap[g]?=aE (aI l.toArray t (0,0))→o+vs.length≤l.length→
  (w.setCells g o vs).heap[g]?=aE (aI (l.take o++vs++l.drop (o+vs.length)).toArray t (0,0))
 | [],o,w,l,t,h,_=>by show w.heap[g]?=_;rw[h];simp
 |v::vs,o,w,l,t,h,hl=>by have h1:=cN (i:=o) h v;rw[cE] at h1;have ih:=Cg g vs (o+1) (w.setCell ⟨g,o,J⟩ v) (l.set o v) t h1 (by rw[jQ];simp at hl;omega);show((w.setCell ⟨g,o,J⟩ v).setCells g (o+1) vs).heap[g]?=_;rw[ih];have e:=list_seg_step l o v vs (by simpa using hl);rw[e];simp
theorem Rw(ha: ∀r∈rows,r.length=size){k:Nat}{r':List aT}(hk:k<rows.length)(hr:r'.length=size):
  rows.flatten.take (k*size)++r'++rows.flatten.drop (k*size+r'.length)=(rows.set k r').flatten:=by
 have h1:rows=rows.take k++rows[k]::rows.drop (k+1):=by rw[←List.drop_eq_getElem_cons hk,nJ]
 have h2:(rows.take k).flatten.length=k*size:=by rw[xE (rows.take k) (fun r hr=>ha r (mD hr)),fH,wG (by omega)]
 have h3:rows[k].length=size:=ha _ (oZ hk);have h4:rows.set k r'=rows.take k++r'::rows.drop (k+1):=by rw[List.set_eq_take_append_cons_drop,bY hk]
 have h5:rows.flatten=(rows.take k).flatten++(rows[k]++(rows.drop (k+1)).flatten):=by
  conv=>lhs;rw[h1]
  rw[rV,kG]
 rw[h4,rV,kG,h5,fW (by omega),List.take_of_length_le (by omega)];have h6:((rows.take k).flatten++(rows[k]++(rows.drop (k+1)).flatten)).drop (k*size+r'.length)=(rows.drop (k+1)).flatten:=by rw[List.drop_append,List.drop_eq_nil_of_le (by omega),eF,h2,Nat.add_sub_cancel_left,List.drop_append,List.drop_eq_nil_of_le (by omega),eF,hr,h3,Nat.sub_self,List.drop_zero]
 rw[h6,List.append_assoc]
theorem RW.set(h:RW w g t rows)(ha: ∀r∈rows,r.length=size){k:Nat}{r':List aT}(hk:k<rows.length)(hr:r'.length=size):RW (w.setCells g (k*size) r') g t (rows.set k r'):=by
 have hl:=xE rows ha
 have:=Cg g r' (k*size) w rows.flatten t h (by
  rw[hl,hr];have:=Nat.mul_le_mul_right size (show k+1≤rows.length by omega);rw[Nat.succ_mul] at this
  exact this)
 rw[Rw ha hk hr] at this;exact this
theorem qX{B:Nat}{w0:aS}(hg:B≤g): ∀(vs:List aT) (o:Nat) (w:aS),aV B w0 w→aV B w0 (w.setCells g o vs)
 | [],_,_,h=>h
 |v::vs,o,w,h=>qX hg vs (o+1) _ (h.setCell (p:=⟨g,o,J⟩) hg v)
theorem RW.old{B:Nat}(h:RW w g t rows)(hb:aV B w w')(hg:g<B):RW w' g t rows:=bV h hb hg
end
theorem K8{P:aZ}(w:aS)(dT sT ty elem:aY)(g n dCap:Nat)(a:aW)(Tm size:Nat)(cur:Array aT)(t:aY)(cs:List aT)
  (hu:P.underlying dT=aE (.slice elem)) (hs:(P.info? elem).map (·.size)=aE size)
  (hg:w.heap[g]?=aE (aI cur t (0,0))) (hn:cs.length=n*size) (hc:cur.size=n*size)
  (aB4: ∀j v,cs[j]?=aE v→w.cell? (a.add j)=aE v) (h1: ∀v∈cs,v.oneCell'=aF):
  (Builtin.copy_ #[dT,sT] ty #[aL (aE ⟨g,0,J⟩) n dCap,aL (aE a) n Tm]).run P w= .ok (goInt n) (w.setRow g cs.toArray):=by
 have hl:=run_loadCells_list (P:=P) w a cs aB4;have hst:=run_storeCells_at P g 0 t cs 0 cur w hg (by omega) h1;have e:(cur.toList.take (0+0)++cs++cur.toList.drop (0+0+cs.length))=cs:=by rw[List.drop_eq_nil_of_le (by rw[oN];omega)];simp
 rw[e] at hst
 cases hq:P.info? elem with
 |none=>simp[hq] at hs
 |some i=>
  have hi:i.size=size:=by simpa [hq] using hs
  simp[Builtin.copy_,dE hu,Builtin.lenOf,Builtin.firstCells,sizeOf,bF,hq,hi,←hn,hl,hst]
theorem Le{P:aZ}(w:aS)(dT sT ty elem:aY)(d a:Option aW)(dCap Tm:Nat)(hu:P.underlying dT=aE (.slice elem)){i:TypeInfo}(hq:P.info? elem=aE i):
  (Builtin.copy_ #[dT,sT] ty #[aL d 0 dCap,aL a 0 Tm]).run P w= .ok (goInt 0) w:=by
 have hl: ∀(x:aW),(loadCells x 0).run P w= .ok #[] w:=fun x=>by simpa using run_loadCells_list (P:=P) w x [] (by simp)
 cases d<;>cases a<;>simp[Builtin.copy_,dE hu,Builtin.lenOf,Builtin.firstCells,sizeOf,bF,hq,storeCells,hl]
theorem Gr{P:aZ}{w:aS}{dT sT ty elem:aY}{g n dCap Tm size B:Nat}{A:Option aW}{cur:Array aT}{t:aY}{rows:List (List aT)}
  (hu:P.underlying dT=aE (.slice elem)) {i:TypeInfo} (hq:P.info? elem=aE i) (hs:i.size=size) (h0:0<size)
  (hg:w.heap[g]?=aE (aI cur t (0,0))) (hc:cur.size=n*size) (h:RdR w B size A n Tm rows) (h1: ∀u∈rows.flatten,u.oneCell'=aF):
  ∃w',(Builtin.copy_ #[dT,sT] ty #[aL (aE ⟨g,0,J⟩) n dCap,aL A n Tm]).run P w= .ok (goInt n) w'∧RW w' g t rows∧∀(B0:Nat) (w0:aS),aV B0 w0 w→B0≤g→aV B0 w0 w':=by
 have hl:rows.length=n:=h.1;have P6:rows.flatten.length=n*size:=by rw[xE rows h.2.1,hl]
 rcases jN n with hn|hn
 ·subst hn;have hr:rows= []:=cU hl;subst hr;refine⟨w,Le w dT sT ty elem _ A dCap Tm hu hq,?_,fun _ _ h _=>h⟩;unfold RW;rw[hg];have:cur= #[]:=Array.eq_empty_of_size_eq_zero (by rw[hc];simp);rw[this];rfl
 ·obtain⟨ad,rfl,hb,jI⟩:=(yX h h0).at_ hn;refine⟨_,K8 w dT sT ty elem g n dCap ad Tm size cur t rows.flatten hu (by rw[hq,←hs];rfl) hg P6 hc jI h1,?_,fun B0 w0 hb0 hB=>below_setRow hb0 hB _⟩;exact setRow_heap _ _ _ _ _ _ hg
theorem zH{P:aZ}{w w':aS}{ops:Array bA}{rest:List bA}{a:Act}{Q:Exit→Act→aS→Prop}{d:Option Tmp}{x y:Operand}{t t' ty:aY}{pos:String}{af:Array Edge}{v u r:aT}
  (hx:a.eval x=v) (hy:a.eval y=u) (hr:(Builtin.copy_ #[t,t'] ty #[v,u]).run P w= .ok r w') (h:wpList P ops Q rest (a.put d r) w'):wpList P ops Q (⟨d,.call { callee:= .builtin .copy,args:= #[x,y],argTypes:= #[t,t'] },ty,pos,af,J⟩::rest) a w:=
 tZ D fun _ hK=>by unfold Oper.wp bD;simp only[resolve,invoke,builtin,eB,jU,eD,eG,eE,fK,hx,hy,hr];exact hK _ _ h
theorem S8{w:aS}{base g n:Nat}{e:aY}{size:Nat}{xs:List aT}(h:w.ownsRow base e size (aL (aE ⟨g,0,J⟩) n n) n xs): ∃cur,w.heap[g]?=aE (aI cur e (0,0))∧cur.size=n*size∧base≤g:=by
 rcases h.2 with⟨hv,_⟩|⟨g',cap,cur,hv,hb,hg,_,_,hs,_⟩
 ·cases hv
 ·injection hv with e1 _ e3;injection e1 with e1;injection e1 with e1 _ _;subst e1;subst e3;exact⟨cur,hg,hs,hb⟩
theorem I2{P:aZ}{w:aS}{ops:Array bA}{rest:List bA}{a:Act}{Q:Exit→Act→aS→Prop}{d:Option Tmp}{t ty:aY}{x y:Operand}{pos:String}{af:Array Edge}
  (h:Stop (wpList P ops Q (⟨d,.makeSlice t x y,ty,pos,af,J⟩::rest) a w)):wpList P ops Q (⟨d,.makeSlice t x y,ty,pos,af,J⟩::rest) a w:=h
theorem I4{P:aZ}{w:aS}{ops:Array bA}{rest:List bA}{a:Act}{Q:Exit→Act→aS→Prop}{d:Option Tmp}{ar:Array Operand}{ts:Array aY}{ty:aY}{pos:String}{af:Array Edge}{g:Option (Nat × Bool)}
  (h:Stop (wpList P ops Q (⟨d,.call { callee:= .builtin .copy,args:=ar,argTypes:=ts },ty,pos,af,g⟩::rest) a w)):wpList P ops Q (⟨d,.call { callee:= .builtin .copy,args:=ar,argTypes:=ts },ty,pos,af,g⟩::rest) a w:=h
theorem RW.rd{w:aS}{g n:Nat}{t:aY}{rows:List (List aT)}{size:Nat}(h:RW w g t rows)(ha: ∀r∈rows,r.length=size)(hl:rows.length=n)(hm:n≤bB):RdR w w.heap.size size (aE ⟨g,0,J⟩) n n rows:=by
 refine⟨hl,ha,bM _,hm,fun _=>⟨g,0,D,bT h,fun k r hk=> ?_⟩⟩;rw[fZ];exact h.at_ ha hk
end
section
open Go.RowKit NumLaw
attribute [local go_sem] Addr.add_mid
abbrev iK:=@all_oneCell_toArray
abbrev nE:=@underlying448
theorem Me{α:Type}(p s r:List α)(x y:α)(q j:Nat)(hq:q=j+1)(hj:p.length=j):(((p++ [y])++x::s++r).set q y).set j x=p++x::(y::s)++r:=by
 subst hq;rw[show p++ [y]++x::s++r=p++(y::x::(s++r)) by simp,List.set_append_right (h:=by omega),hj,show j+1-j=1 by omega,List.set_append_right (h:=by omega),hj,Nat.sub_self];simp
theorem RW.drew{w:aS}{g:Nat}{t:aY}{rows:List (List aT)}(h:RW w g t rows):RW w.drew g t rows:=h
theorem VP{size:Nat}{rows:List (List aT)}(ha: ∀r∈rows,r.length=size){k:Nat}{r':List aT}(hr:r'.length=size): ∀r∈rows.set k r',r.length=size:=fun r h=>by
 rcases List.mem_or_eq_of_mem_set h with h|rfl
 ·exact ha r h
 ·exact hr
theorem Rm(a b:PtT)(w:aS):aU bH 304 #[aM (pH a).toArray,aM (pH b).toArray] w fun e w'=>e=aJ (aG (decide (b.sz<a.sz)))∧aV w.heap.size w w':=by
 obtain⟨s1,z1,g1,m1⟩:=a;obtain⟨s2,z2,g2,m2⟩:=b;obtain⟨a0,a1,hs,hb⟩:=yZ w (aI #[aH s1,O Y z1,aG g1,O Y m1] 448) (aI #[aH s2,O Y z2,aG g2,O Y m2] 448);have k0:=bL (i:=1) (v:=O Y z1) a0 D;have k1:=bL (i:=1) (v:=O Y z2) a1 D;show aU _ _ #[aM #[aH s1,O Y z1,aG g1,O Y m1],aM #[aH s2,O Y z2,aG g2,O Y m2]] _ _;go_enter func304,ntmps304;go_wp2;go_ret;exact⟨D,hb⟩
theorem Ss(A:Option aW)(n c:Nat)(L:List PtT)(w:aS)(h:RdR w w.heap.size 4 A n c (L.map pH))(hn:n≤1000):
  aU bH 303 #[aL A n c,.func (.func 304) #[] #[]] w fun e w'=> ∃(A':Option aW) (c':Nat),e=aJ (aL A' n c')∧RdR w' w'.heap.size 4 A' n c' ((Bw PtT.sz L).map pH)∧aV w.heap.size w w':=by
 have oJ:L.length=n:=by have:=h.1;rwa[List.length_map] at this
 have hmx:=h.2.2.2.1;have hle:=h.2.2.1;unfold bB at hmx;obtain⟨i1,As⟩:=eW No;have Hi1:=bK As;have Hll:=bK oJ;have Hha:=bK Rm;have h4: ∀(M:List PtT),∀r∈M.map pH,r.length=4:=fun M r hr=>by obtain⟨p,_,rfl⟩:=List.mem_map.1 hr;rfl
 have H4:=bK h4;have Ps: ∀u∈(L.map pH).flatten,u.oneCell'=aF:=fun u hu=>by obtain⟨r,hr,hu⟩:=List.mem_flatten.1 hu;obtain⟨p,_,rfl⟩:=List.mem_map.1 hr;exact Eg p u hu
 have Hone:=bK Ps;have Hsl:=bK (O0 PtT.sz);clear oJ As h4 Ps;go_enter func303,ntmps303;go_wp2_with(with_reducible refine I2 ?_);refine eL (wpList_make_full w D _ _ _ D w.heap.size 448 i1 (aM #[aH ⟨#[]⟩,O Y 0,aG aD,O Y 0]) 4 pK Hi1.out.1 Hi1.out.2.1 Hi1.out.2.2.1 Y Y _ _ n D D D D (by rw[Hi1.out.2.2.2];omega) (by unfold bB;omega) (bM _) ?_);intro w1 sB hgr;have hb1:aV w.heap.size w w1:=Below.grown (bP _ _) hgr (bM _) (fun j hj=>by cases hj);obtain⟨cur,Km,Co,_⟩:=S8 sB;have hr1:=tX h hb1;clear sB hgr;go_wp2_with(with_reducible refine I4 ?_);obtain⟨w2,yU,hrw,hbq⟩:=Gr (P:=bH) (ty:=3) (dT:=375) (sT:=375) (dCap:=n) pK Hi1.out.1 Hi1.out.2.2.1 (by omega) Km Co hr1 Hone.out;have hb2:=hbq _ _ hb1 (bM _);refine eL (zH D D yU ?_);obtain⟨g,Pj⟩: ∃g,g=w.heap.size:=⟨_,D⟩;have Hg:=bK Pj;rw[←Pj] at hrw ⊢;clear yU hbq Km Co hr1 hb1 Pj w1;go_wp2_with fail;go_loopw [16] (fun t wr=> ∃i:Nat,i≤n∧t=O Y i∧Hid (RW wr g 448 ((Bw PtT.sz (L.take i)++L.drop i).map pH))∧aV w.heap.size w wr) (fun t _=>n-(bE t).toNat);case atStart=>exact⟨0,by omega,D,bK (by simpa [Yo] using hrw),hb2⟩
 case round=>
  clear hrw hb2 w2;obtain⟨i,hi,rfl,hrw,hb⟩:=hrel;by_cases fF:i<n
  ·have z7:(i:Int)<(n:Int):=by omega
   obtain⟨x,hx⟩: ∃x,L[i]?=aE x:=⟨_,cF (by rw[Hll.out];exact fF)⟩;have hdr:L.drop i=x::L.drop (i+1):=by have h1:=List.drop_eq_getElem_cons (l:=L) (i:=i) (by rw[Hll.out];exact fF);rw[cF (by rw[Hll.out];exact fF)] at hx;injection hx with hx;rw[h1,hx]
   have Htx:=bK (fD hx);have Xg:=hrw.out;rw[hdr] at Xg;have Hrw0:=bK Xg;have MR:(Bw PtT.sz (L.take i)).length=i:=by rw[Hsl.out,fH,Hll.out];omega
   have ew:=bK MR;clear hx hdr hrw Xg MR;go_wp2_with fail;go_loopw [7] (fun k wr=> ∃(q:Nat) (p s:List PtT),q≤i∧k=O Y q∧Hid (p.length=q)∧Hid (Bw PtT.sz (L.take i)=p++s∧∀y∈s,PtT.sz y<PtT.sz x)∧Hid (RW wr g 448 ((p++x::s++L.drop (i+1)).map pH))∧aV w.heap.size w wr) (fun k _=>(bE k).toNat);case atStart=>exact⟨i,Bw PtT.sz (L.take i),[],by omega,D,ew,bK ⟨by simp,by simp⟩,bK (by simpa using Hrw0.out),hb⟩
   case round=>
    clear hb Hrw0;obtain⟨q,p,s,hq,rfl,Hp,Hs,Hrw,hb⟩:=hrel;have Kn:g<wr.heap.size:=bT Hrw.out;by_cases OC:q=0
    ·subst OC;have th:p= []:=cU Hp.out;have hst:=Og PtT.sz Hs.out.1 Hs.out.2 (.inl th);have Hst:=bK (show RW wr g 448 ((Bw PtT.sz (L.take (i+1))++L.drop (i+1)).map pH) by rw[Htx.out,hst];exact Hrw.out);clear th hst;rw[show((0:Nat):Int)=0 from D];go_wp2_with fail;refine cQ (fun w'=>aV wr.heap.size wr w') aD [] (by kernel_rfl) (by kernel_rfl) (bP _ _).drew ?_;have hS:aV wr.heap.size wr wr.drew:=(bP _ _).drew;generalize wr.drew=wd at*;iterate 3 with_reducible refine nD ?_
     iterate 11 with_reducible refine Ord.Ug ?_
     with_reducible refine nD ?_
     refine cV ?_;have hbf:=eI hb hS;have ey:=bK (Hst.out.old hS Kn);clear Hst hb hS;go_wp2;go_roundw;case rel=>exact⟨i+1,by omega,by go_num,ey,hbf⟩
     case measure=>simp[bE];omega
    ·obtain⟨j,hj⟩: ∃j,q=j+1:=⟨q-1,by omega⟩;have Hj:=bK hj;obtain⟨y,hy⟩: ∃y,p[j]?=aE y:=⟨_,cF (by rw[Hp.out];omega)⟩
     have MS:p=p.take j++ [y]:=by
      have:=fD hy
      rwa[List.take_of_length_le (by rw[Hp.out];omega)] at this
     obtain⟨p',yC⟩: ∃p',p'=p.take j:=⟨_,D⟩;rw[←yC] at MS;have Di:p'.length=j:=by have:=Hp.out;rw[MS,cZ] at this;simp at this;omega
     have ez:=Hrw.out;rw[MS] at ez;have EH:(((p'++ [y])++x::s++L.drop (i+1)).map pH)[q]?=aE (pH x):=by rw[eN,List.append_assoc,dG (by rw[cZ,Di];simp;omega),cZ,Di,hj];simp
     have yM:(((p'++ [y])++x::s++L.drop (i+1)).map pH)[j]?=aE (pH y):=by rw[eN,List.append_assoc,List.append_assoc,dG (by omega),Di];simp
     have hlen:q<(((p'++ [y])++x::s++L.drop (i+1)).map pH).length:=(List.getElem?_eq_some_iff.1 EH).1;have Hk:=bK (bO EH yM);have HRW:=bK ez;have Hpp:=bK (bO MS Di);have Hlen:=bK hlen;have hqn:(q:Int)<(n:Int):=by omega
     have hjn:(j:Int)<(n:Int):=by omega
     have h0q:(0:Int)<(q:Int):=by omega
     have xn:decide ((0:Int)<(q:Int))=aF:=dU h0q;have aB7:decide (0<q)=aF:=dU (by omega);have hw0:IntKind.i64.wrap ((q:Int)-1)=(j:Int):=by have:=Hj.out;rw[fV _ (by omega)];omega
     have Hrx:=bK (show∀w',aV wr.heap.size wr w'→w'.rangeAt g (q*4) (pH x) from fun w' hb'=>(HRW.out.old hb' Kn).at_ (H4.out _) EH);have Hry:=bK (show∀w',aV wr.heap.size wr w'→w'.rangeAt g (j*4) (pH y) from fun w' hb'=>(HRW.out.old hb' Kn).at_ (H4.out _) yM);have Hahc:=bK (fun w=>Hha.out x y w);clear hj hy MS yC Di ez EH yM hlen OC;go_wp2_with fail;refine cQ (fun w'=>aV wr.heap.size wr w') aD [] (by kernel_rfl) (by kernel_rfl) (bP _ _).drew ?_;have hS:aV wr.heap.size wr wr.drew:=(bP _ _).drew;generalize wr.drew=wd at*;iterate 7 with_reducible refine nD ?_
     refine eA (cs:=pH x) (b:=g) (o:=q*4) nE D (by kernel_rfl) D (by simp[pH]) (fun w' hS=>(Hrx.out w' hS)) hS (by kernel_rfl) ?_;refine PT ?_;iterate 4 with_reducible refine nD ?_
     refine eA (cs:=pH y) (b:=g) (o:=j*4) nE D (by kernel_rfl) D (by simp[pH]) (fun w' hS=>(Hry.out w' hS)) hS (by kernel_rfl) ?_;refine PT ?_;refine Ord.X ?_;go_wp2_with fail;go_fit(Hahc.out wd);rintro e we ⟨rfl,hbx⟩;replace hS:=eI hS hbx;go_wp2_with fail;refine cC hS (fun h=>by cases h) ?_;refine PT ?_;clear hbx Hahc;have hbf:=eI hb hS;have fa:g<we.heap.size:=cI Kn hS.size;have HRW2:=bK (HRW.out.old hS Kn);have MT:=Hrx.out we hS;have MU:=Hry.out we hS;by_cases UW:PtT.sz y<PtT.sz x
     ·rw[dU UW];with_reducible refine nD ?_
      refine cV ?_;have hoy:=iK (Eg y);have hox:=iK (Eg x);have hrws:=HRW2.out;clear hS Kn fa HRW2;go_wp2_with fail;refine cQ (fun _=>True) aD [46,50] (by kernel_rfl) (by kernel_rfl) cM ?_;replace MT:we.drew.rangeAt g (q*4) (pH x):=MT;replace MU:we.drew.rangeAt g (j*4) (pH y):=MU;replace hrws:=hrws.drew;replace hbf:aV w.heap.size w we.drew:=hbf.drew;generalize we.drew=wf at*;have hset1:=hrws.set (H4.out _) (k:=q) (r':=pH y) (by exact Hlen.out) D;have xT:=VP (H4.out (((p'++ [y])++x::s++L.drop (i+1)))) (k:=q) (r':=pH y) D;have Kc:=hset1.set xT (k:=j) (r':=pH x) (by rw[jQ];have:=Hlen.out;have:=Hj.out;omega) D;have tj:((((p'++ [y])++x::s++L.drop (i+1)).map pH).set q (pH y)).set j (pH x)=((p'++x::(y::s)++L.drop (i+1)).map pH):=by rw[←List.map_set,←List.map_set,Me p' s (L.drop (i+1)) x y q j Hj.out Hpp.out.2]
      rw[tj] at Kc;have Hset:=bK Kc
      have Hs2:=bK (show Bw PtT.sz (L.take i)=p'++(y::s)∧∀z∈(y::s),PtT.sz z<PtT.sz x from⟨by rw[Hs.out.1,Hpp.out.1];simp,fun z hz=>by
       rcases List.mem_cons.1 hz with rfl|hz
       ·exact UW
       ·exact Hs.out.2 z hz⟩)
      have MV:=hrws.there (H4.out _) Hk.out.1 (n:=4) D;have MW:=hset1.there xT (k:=j) (r:=pH y) (by rw[List.getElem?_set_ne (by have:=Hj.out;omega)];exact Hk.out.2) (n:=4) D;have MX:=qX (g:=g) (by rw[←Hg.out];exact bM _) (pH y) (q*4) wf hbf;have fb:=qX (g:=g) (by rw[←Hg.out];exact bM _) (pH x) (j*4) _ MX;clear Kc tj xT hset1;iterate 9 with_reducible refine nD ?_
      refine kS (cs:=pH y) (b:=g) (o:=j*4) nE D (by kernel_rfl) D MU (by kernel_rfl) (by kernel_rfl) ?_;refine PT ?_;iterate 3 with_reducible refine nD ?_
      refine kS (cs:=pH x) (b:=g) (o:=q*4) nE D (by kernel_rfl) D MT (by kernel_rfl) (by kernel_rfl) ?_;refine PT ?_;with_reducible refine nD ?_
      refine Ord.X ?_;refine wpList_store_mid D _ _ _ D g (q*4) (pH y).toArray D D MV (by kernel_rfl) hoy ?_;go_wp2_with fail;refine cC cM (fun h=>by cases h) ?_;refine PT ?_;with_reducible refine nD ?_
      refine Ord.X ?_;refine wpList_store_mid D _ _ _ D g (j*4) (pH x).toArray D D MW (by kernel_rfl) hox ?_;go_wp2_with fail;refine cC cM (fun h=>by cases h) ?_;refine PT ?_;refine cV ?_;clear MT MU hrws MV MW hbf MX;go_wp2;go_roundw;case rel=>exact⟨j,p',y::s,by have:=Hj.out;omega,by go_num,bK Hpp.out.2,Hs2,Hset,fb⟩
      case measure=>simp[bE];have:=Hj.out;omega
     ·rw[dN UW];with_reducible refine nD ?_
      refine cV ?_;have hst:=Og PtT.sz Hs.out.1 Hs.out.2 (.inr ⟨p',y,Hpp.out.1,UW⟩);have Hst:=bK (show RW we g 448 ((Bw PtT.sz (L.take (i+1))++L.drop (i+1)).map pH) by rw[Htx.out,hst,Hpp.out.1];exact HRW2.out);clear hst MT MU hS;go_wp2;go_roundw;case rel=>exact⟨i+1,by omega,by go_num,Hst,hbf⟩
      case measure=>simp[bE];omega
  ·obtain rfl:i=n:=by omega
   have hfin:=hrw.out;rw[List.take_of_length_le (by rw[Hll.out];exact bM _),lG (by rw[Hll.out];exact bM _),List.append_nil] at hfin;have hrd:=hfin.rd (n:=i) (H4.out _) (by rw[List.length_map,Hsl.out];exact Hll.out) (by unfold bB;omega);clear hfin;go_wp2;go_ret;exact⟨aE ⟨g,0,J⟩,i,D,hrd,hb⟩
theorem U8(A:Option aW)(n c:Nat)(L:List PtT)(w:aS)(h:RdP w w.heap.size A n c L)(hn:n≤1000):
  aU bH 256 #[aL A n c] w fun e w'=> ∃(A':Option aW) (c':Nat),e=aJ (aL A' n c')∧RdP w' w'.heap.size A' n c' (Bw PtT.sz L)∧aV w.heap.size w w':=by
 go_enter func256,ntmps256;go_wp2_with fail;go_fit(Ss A n c L w h hn);rintro e w1 ⟨A1,c1,rfl,hr,hb⟩;go_wp2;go_ret;exact⟨A1,c1,D,hr,hb⟩
abbrev sY:=@underlying383
def uN(s:If):List aT:= [O Y s.1,aG s.2.1,O Y s.2.2]
theorem G9(s:If): ∀u∈uN s,u.oneCell'=aF:=by
 intro u hu;simp only[uN,fL,List.not_mem_nil,or_false] at hu;rcases hu with rfl|rfl|rfl<;>rfl
theorem Yy:(Tryz.prog.info? 383).map (fun i=>(i.zero,i.size,i.bytes))=aE (aE (aM #[O Y 0,aG aD,O Y 0]),3,24):=by kernel_rfl
theorem Vw(a b:If)(w:aS):aU bH 254 #[aM (uN a).toArray,aM (uN b).toArray] w fun e w'=>e=aJ (aG (decide (G8 b<G8 a)))∧aV w.heap.size w w':=by
 obtain⟨z1,g1,m1⟩:=a;obtain⟨z2,g2,m2⟩:=b;obtain⟨a0,a1,hs,hb⟩:=yZ w (aI #[O Y z1,aG g1,O Y m1] 383) (aI #[O Y z2,aG g2,O Y m2] 383);have k0:=bL (i:=0) (v:=O Y z1) a0 D;have k1:=bL (i:=0) (v:=O Y z2) a1 D;show aU _ _ #[aM #[O Y z1,aG g1,O Y m1],aM #[O Y z2,aG g2,O Y m2]] _ _;go_enter func254,ntmps254;go_wp2;go_ret;exact⟨D,hb⟩
theorem Sa(A:Option aW)(n c:Nat)(L:List If)(w:aS)(h:RdR w w.heap.size 3 A n c (L.map uN))(hn:n≤1000):
  aU bH 253 #[aL A n c,.func (.func 254) #[] #[]] w fun e w'=> ∃(A':Option aW) (c':Nat),e=aJ (aL A' n c')∧RdR w' w'.heap.size 3 A' n c' ((Bw G8 L).map uN)∧aV w.heap.size w w':=by
 have oJ:L.length=n:=by have:=h.1;rwa[List.length_map] at this
 have hmx:=h.2.2.2.1;have hle:=h.2.2.1;unfold bB at hmx;obtain⟨i1,As⟩:=eW Yy;have Hi1:=bK As;have Hll:=bK oJ;have Hha:=bK Vw;have h4: ∀(M:List If),∀r∈M.map uN,r.length=3:=fun M r hr=>by obtain⟨p,_,rfl⟩:=List.mem_map.1 hr;rfl
 have H4:=bK h4;have Ps: ∀u∈(L.map uN).flatten,u.oneCell'=aF:=fun u hu=>by obtain⟨r,hr,hu⟩:=List.mem_flatten.1 hu;obtain⟨p,_,rfl⟩:=List.mem_map.1 hr;exact G9 p u hu
 have Hone:=bK Ps;have Hsl:=bK (O0 G8);clear oJ As h4 Ps;go_enter func253,ntmps253;go_wp2_with(with_reducible refine I2 ?_);refine eL (wpList_make_full w D _ _ _ D w.heap.size 383 i1 (aM #[O Y 0,aG aD,O Y 0]) 3 underlying379 Hi1.out.1 Hi1.out.2.1 Hi1.out.2.2.1 Y Y _ _ n D D D D (by rw[Hi1.out.2.2.2];omega) (by unfold bB;omega) (bM _) ?_);intro w1 sB hgr;have hb1:aV w.heap.size w w1:=Below.grown (bP _ _) hgr (bM _) (fun j hj=>by cases hj);obtain⟨cur,Km,Co,_⟩:=S8 sB;have hr1:=tX h hb1;clear sB hgr;go_wp2_with(with_reducible refine I4 ?_);obtain⟨w2,yU,hrw,hbq⟩:=Gr (P:=bH) (ty:=3) (dT:=379) (sT:=379) (dCap:=n) underlying379 Hi1.out.1 Hi1.out.2.2.1 (by omega) Km Co hr1 Hone.out;have hb2:=hbq _ _ hb1 (bM _);refine eL (zH D D yU ?_);obtain⟨g,Pj⟩: ∃g,g=w.heap.size:=⟨_,D⟩;have Hg:=bK Pj;rw[←Pj] at hrw ⊢;clear yU hbq Km Co hr1 hb1 Pj w1;go_wp2_with fail;go_loopw [16] (fun t wr=> ∃i:Nat,i≤n∧t=O Y i∧Hid (RW wr g 383 ((Bw G8 (L.take i)++L.drop i).map uN))∧aV w.heap.size w wr) (fun t _=>n-(bE t).toNat);case atStart=>exact⟨0,by omega,D,bK (by simpa [Yo] using hrw),hb2⟩
 case round=>
  clear hrw hb2 w2;obtain⟨i,hi,rfl,hrw,hb⟩:=hrel;by_cases fF:i<n
  ·have z7:(i:Int)<(n:Int):=by omega
   obtain⟨x,hx⟩: ∃x,L[i]?=aE x:=⟨_,cF (by rw[Hll.out];exact fF)⟩;have hdr:L.drop i=x::L.drop (i+1):=by have h1:=List.drop_eq_getElem_cons (l:=L) (i:=i) (by rw[Hll.out];exact fF);rw[cF (by rw[Hll.out];exact fF)] at hx;injection hx with hx;rw[h1,hx]
   have Htx:=bK (fD hx);have Xg:=hrw.out;rw[hdr] at Xg;have Hrw0:=bK Xg;have MR:(Bw G8 (L.take i)).length=i:=by rw[Hsl.out,fH,Hll.out];omega
   have ew:=bK MR;clear hx hdr hrw Xg MR;go_wp2_with fail;go_loopw [7] (fun k wr=> ∃(q:Nat) (p s:List If),q≤i∧k=O Y q∧Hid (p.length=q)∧Hid (Bw G8 (L.take i)=p++s∧∀y∈s,G8 y<G8 x)∧Hid (RW wr g 383 ((p++x::s++L.drop (i+1)).map uN))∧aV w.heap.size w wr) (fun k _=>(bE k).toNat);case atStart=>exact⟨i,Bw G8 (L.take i),[],by omega,D,ew,bK ⟨by simp,by simp⟩,bK (by simpa using Hrw0.out),hb⟩
   case round=>
    clear hb Hrw0;obtain⟨q,p,s,hq,rfl,Hp,Hs,Hrw,hb⟩:=hrel;have Kn:g<wr.heap.size:=bT Hrw.out;by_cases OC:q=0
    ·subst OC;have th:p= []:=cU Hp.out;have hst:=Og G8 Hs.out.1 Hs.out.2 (.inl th);have Hst:=bK (show RW wr g 383 ((Bw G8 (L.take (i+1))++L.drop (i+1)).map uN) by rw[Htx.out,hst];exact Hrw.out);clear th hst;rw[show((0:Nat):Int)=0 from D];go_wp2_with fail;refine cQ (fun w'=>aV wr.heap.size wr w') aD [] (by kernel_rfl) (by kernel_rfl) (bP _ _).drew ?_;have hS:aV wr.heap.size wr wr.drew:=(bP _ _).drew;generalize wr.drew=wd at*;iterate 3 with_reducible refine nD ?_
     iterate 11 with_reducible refine Ord.Ug ?_
     with_reducible refine nD ?_
     refine cV ?_;have hbf:=eI hb hS;have ey:=bK (Hst.out.old hS Kn);clear Hst hb hS;go_wp2;go_roundw;case rel=>exact⟨i+1,by omega,by go_num,ey,hbf⟩
     case measure=>simp[bE];omega
    ·obtain⟨j,hj⟩: ∃j,q=j+1:=⟨q-1,by omega⟩;have Hj:=bK hj;obtain⟨y,hy⟩: ∃y,p[j]?=aE y:=⟨_,cF (by rw[Hp.out];omega)⟩
     have MS:p=p.take j++ [y]:=by
      have:=fD hy
      rwa[List.take_of_length_le (by rw[Hp.out];omega)] at this
     obtain⟨p',yC⟩: ∃p',p'=p.take j:=⟨_,D⟩;rw[←yC] at MS;have Di:p'.length=j:=by have:=Hp.out;rw[MS,cZ] at this;simp at this;omega
     have ez:=Hrw.out;rw[MS] at ez;have EH:(((p'++ [y])++x::s++L.drop (i+1)).map uN)[q]?=aE (uN x):=by rw[eN,List.append_assoc,dG (by rw[cZ,Di];simp;omega),cZ,Di,hj];simp
     have yM:(((p'++ [y])++x::s++L.drop (i+1)).map uN)[j]?=aE (uN y):=by rw[eN,List.append_assoc,List.append_assoc,dG (by omega),Di];simp
     have hlen:q<(((p'++ [y])++x::s++L.drop (i+1)).map uN).length:=(List.getElem?_eq_some_iff.1 EH).1;have Hk:=bK (bO EH yM);have HRW:=bK ez;have Hpp:=bK (bO MS Di);have Hlen:=bK hlen;have hqn:(q:Int)<(n:Int):=by omega
     have hjn:(j:Int)<(n:Int):=by omega
     have h0q:(0:Int)<(q:Int):=by omega
     have xn:decide ((0:Int)<(q:Int))=aF:=dU h0q;have aB7:decide (0<q)=aF:=dU (by omega);have hw0:IntKind.i64.wrap ((q:Int)-1)=(j:Int):=by have:=Hj.out;rw[fV _ (by omega)];omega
     have Hrx:=bK (show∀w',aV wr.heap.size wr w'→w'.rangeAt g (q*3) (uN x) from fun w' hb'=>(HRW.out.old hb' Kn).at_ (H4.out _) EH);have Hry:=bK (show∀w',aV wr.heap.size wr w'→w'.rangeAt g (j*3) (uN y) from fun w' hb'=>(HRW.out.old hb' Kn).at_ (H4.out _) yM);have Hahc:=bK (fun w=>Hha.out x y w);clear hj hy MS yC Di ez EH yM hlen OC;go_wp2_with fail;refine cQ (fun w'=>aV wr.heap.size wr w') aD [] (by kernel_rfl) (by kernel_rfl) (bP _ _).drew ?_;have hS:aV wr.heap.size wr wr.drew:=(bP _ _).drew;generalize wr.drew=wd at*;iterate 7 with_reducible refine nD ?_
     refine eA (cs:=uN x) (b:=g) (o:=q*3) sY D (by kernel_rfl) D (by simp[uN]) (fun w' hS=>(Hrx.out w' hS)) hS (by kernel_rfl) ?_;refine PT ?_;iterate 4 with_reducible refine nD ?_
     refine eA (cs:=uN y) (b:=g) (o:=j*3) sY D (by kernel_rfl) D (by simp[uN]) (fun w' hS=>(Hry.out w' hS)) hS (by kernel_rfl) ?_;refine PT ?_;refine Ord.X ?_;go_wp2_with fail;go_fit(Hahc.out wd);rintro e we ⟨rfl,hbx⟩;replace hS:=eI hS hbx;go_wp2_with fail;refine cC hS (fun h=>by cases h) ?_;refine PT ?_;clear hbx Hahc;have hbf:=eI hb hS;have fa:g<we.heap.size:=cI Kn hS.size;have HRW2:=bK (HRW.out.old hS Kn);have MT:=Hrx.out we hS;have MU:=Hry.out we hS;by_cases UW:G8 y<G8 x
     ·rw[dU UW];with_reducible refine nD ?_
      refine cV ?_;have hoy:=iK (G9 y);have hox:=iK (G9 x);have hrws:=HRW2.out;clear hS Kn fa HRW2;go_wp2_with fail;refine cQ (fun _=>True) aD [46,50] (by kernel_rfl) (by kernel_rfl) cM ?_;replace MT:we.drew.rangeAt g (q*3) (uN x):=MT;replace MU:we.drew.rangeAt g (j*3) (uN y):=MU;replace hrws:=hrws.drew;replace hbf:aV w.heap.size w we.drew:=hbf.drew;generalize we.drew=wf at*;have hset1:=hrws.set (H4.out _) (k:=q) (r':=uN y) (by exact Hlen.out) D;have xT:=VP (H4.out (((p'++ [y])++x::s++L.drop (i+1)))) (k:=q) (r':=uN y) D;have Kc:=hset1.set xT (k:=j) (r':=uN x) (by rw[jQ];have:=Hlen.out;have:=Hj.out;omega) D;have tj:((((p'++ [y])++x::s++L.drop (i+1)).map uN).set q (uN y)).set j (uN x)=((p'++x::(y::s)++L.drop (i+1)).map uN):=by rw[←List.map_set,←List.map_set,Me p' s (L.drop (i+1)) x y q j Hj.out Hpp.out.2]
      rw[tj] at Kc;have Hset:=bK Kc
      have Hs2:=bK (show Bw G8 (L.take i)=p'++(y::s)∧∀z∈(y::s),G8 z<G8 x from⟨by rw[Hs.out.1,Hpp.out.1];simp,fun z hz=>by
       rcases List.mem_cons.1 hz with rfl|hz
       ·exact UW
       ·exact Hs.out.2 z hz⟩)
      have MV:=hrws.there (H4.out _) Hk.out.1 (n:=3) D;have MW:=hset1.there xT (k:=j) (r:=uN y) (by rw[List.getElem?_set_ne (by have:=Hj.out;omega)];exact Hk.out.2) (n:=3) D;have MX:=qX (g:=g) (by rw[←Hg.out];exact bM _) (uN y) (q*3) wf hbf;have fb:=qX (g:=g) (by rw[←Hg.out];exact bM _) (uN x) (j*3) _ MX;clear Kc tj xT hset1;iterate 9 with_reducible refine nD ?_
      refine kS (cs:=uN y) (b:=g) (o:=j*3) sY D (by kernel_rfl) D MU (by kernel_rfl) (by kernel_rfl) ?_;refine PT ?_;iterate 3 with_reducible refine nD ?_
      refine kS (cs:=uN x) (b:=g) (o:=q*3) sY D (by kernel_rfl) D MT (by kernel_rfl) (by kernel_rfl) ?_;refine PT ?_;with_reducible refine nD ?_
      refine Ord.X ?_;refine wpList_store_mid D _ _ _ D g (q*3) (uN y).toArray D D MV (by kernel_rfl) hoy ?_;go_wp2_with fail;refine cC cM (fun h=>by cases h) ?_;refine PT ?_;with_reducible refine nD ?_
      refine Ord.X ?_;refine wpList_store_mid D _ _ _ D g (j*3) (uN x).toArray D D MW (by kernel_rfl) hox ?_;go_wp2_with fail;refine cC cM (fun h=>by cases h) ?_;refine PT ?_;refine cV ?_;clear MT MU hrws MV MW hbf MX;go_wp2;go_roundw;case rel=>exact⟨j,p',y::s,by have:=Hj.out;omega,by go_num,bK Hpp.out.2,Hs2,Hset,fb⟩
      case measure=>simp[bE];have:=Hj.out;omega
     ·rw[dN UW];with_reducible refine nD ?_
      refine cV ?_;have hst:=Og G8 Hs.out.1 Hs.out.2 (.inr ⟨p',y,Hpp.out.1,UW⟩);have Hst:=bK (show RW we g 383 ((Bw G8 (L.take (i+1))++L.drop (i+1)).map uN) by rw[Htx.out,hst,Hpp.out.1];exact HRW2.out);clear hst MT MU hS;go_wp2;go_roundw;case rel=>exact⟨i+1,by omega,by go_num,Hst,hbf⟩
      case measure=>simp[bE];omega
  ·obtain rfl:i=n:=by omega
   have hfin:=hrw.out;rw[List.take_of_length_le (by rw[Hll.out];exact bM _),lG (by rw[Hll.out];exact bM _),List.append_nil] at hfin;have hrd:=hfin.rd (n:=i) (H4.out _) (by rw[List.length_map,Hsl.out];exact Hll.out) (by unfold bB;omega);clear hfin;go_wp2;go_ret;exact⟨aE ⟨g,0,J⟩,i,D,hrd,hb⟩
end
end Go.Proofs.YtfoabhdppkjmbaaGreat
