import Derived.Test.YtfoabhdppkjmbaaGreatKZ25
import Derived.Test.YtfoabhdppkjmbaaGreatKZ27
import Derived.Test.YtfoabhdppkjmbaaGreatKZ29
set_option linter.unusedSimpArgs false
set_option linter.unusedVariables false
set_option maxHeartbeats 16000000
set_option maxRecDepth 20000
namespace Go.Proofs.YtfoabhdppkjmbaaGreat
open Bool renaming true→aF
open Go renaming Addr→aW,Calls→aU,Ending→aX,Value→aT,World→aS,maxLen→bB
open Go.Ending renaming returned→aJ
open Go.IntKind renaming i64→Y
open Go.Obj renaming cells→aI
open Go.Proofs.Tryz renaming prog→bH
open Go.RowKit renaming Below→aV,intOf→bE
open Go.Value renaming agg→aM,bool→aG,int→O,slice→aL,tuple→aN
open Option renaming none→J,some→aE
open Go.Proofs.Tryz
namespace NumLaw
end NumLaw
section
open Go.RowKit NumLaw
attribute [local go_sem] Addr.add_mid
attribute [-go_sem] run_eql_struct run_neq_struct
abbrev xW:=@func3
theorem R7: ∀(C:E7) (l:List wX) (p:Nat),(jZ C l).g p=C.g p+Bc l p∧(jZ C l).o p=C.o p+Ik l p∧(jZ C l).inn=C.inn
 |C,[],p=>⟨D,D,D⟩
 |C,x::l,p=>by
  obtain⟨h1,h2,h3⟩:=R7 (rX C x x.proto) l p;have e:jZ C (x::l)=jZ (rX C x x.proto) l:=D;have g1:Bc (x::l) p=(if(!x.odd && x.proto==p)=aF then 1 else 0)+Bc l p:=by unfold Bc;rw[List.filter_cons];split<;>simp<;>omega
  have o1:Ik (x::l) p=(if(x.odd && x.proto==p)=aF then 1 else 0)+Ik l p:=by unfold Ik;rw[List.filter_cons];split<;>simp<;>omega
  rw[e,h1,h2,h3,g1,o1];unfold rX Wh;by_cases hp:p=x.proto
  ·subst hp;cases hx:x.odd<;>simp<;>omega
  ·have yC: ¬x.proto=p:=fun h=>hp h.symm;cases hx:x.odd<;>simp[hp,yC]
theorem Xv: ∀(C:E7) (l:List Nat) (p:Nat),(qI C l).b p=C.b p+Jh l p∧(qI C l).g=C.g∧(qI C l).o=C.o∧(qI C l).inn=C.inn
 |C,[],p=>⟨D,D,D,D⟩
 |C,q::l,p=>by
  obtain⟨h1,h2,h3,h4⟩:=Xv (Fw C q) l p;have e:qI C (q::l)=qI (Fw C q) l:=D;have b1:Jh (q::l) p=(if(q==p)=aF then 1 else 0)+Jh l p:=by unfold Jh;rw[List.filter_cons];split<;>simp<;>omega
  rw[e,h1,h2,h3,h4,b1];unfold Fw Wh;by_cases hp:p=q
  ·subst hp;simp;omega
  ·have yC: ¬q=p:=fun h=>hp h.symm;simp[hp,yC]
theorem yE(b:List UInt8)(p:Nat):(Nr b).g p=Bc (fB (gW b)) p∧(Nr b).o p=Ik (fB (gW b)) p∧(Nr b).b p=Jh (kJ (gW b)) p∧(Nr b).inn=b.length:=by
 have h1:=R7 (Kv b.length) (fB (gW b)) p;have h2:=Xv (jZ (Kv b.length) (fB (gW b))) (kJ (gW b)) p;unfold Nr;rw[h2.1,h2.2.1,h2.2.2.1,h2.2.2.2,h1.1,h1.2.1,h1.2.2,Is];simp[Kv]
theorem QC(b:List UInt8): ∀x∈fB (gW b),NR x.n:=fun x hx=>by
 obtain⟨s,hs,rfl⟩:=List.mem_map.1 hx;rw[(By b _ _ s (List.mem_filter.1 hs).1).1];exact mv _
theorem RdR.takeN{w:aS}{B size n c k:Nat}{A:Option aW}{ls:List (List aT)}(h:RdR w B size A n c ls)(hk:k≤n):RdR w B size A k c (ls.take k):=
 ⟨by rw[fH,h.1];omega,fun r hr=>h.2.1 r (mD hr),bU hk h.2.2.1,h.2.2.2.1,fun h0=>by
  obtain⟨g,off,e,hg,hr⟩:=h.2.2.2.2 (by omega);refine⟨g,off,e,hg,fun j r hj=>hr j r ?_⟩;have fF:j<(ls.take k).length:=(List.getElem?_eq_some_iff.1 hj).1;rw[fH] at fF
  rwa[List.getElem?_take_of_lt (by omega)] at hj⟩
def VM(w:aS)(C:E7)(L:Nat)(xs:List wX)(e:aX)(w':aS):Prop:=
 ∃(A':Option aW) (n' c':Nat) (G:List (wX × yB)),e=aJ (aN #[aL A' n' c',aM (e7 C).toArray,O Y (L:Int)])∧RdR w' w'.heap.size 120 A' n' c' (G.map fun g=>jR g.1 g.2)∧(∀p,A'=aE p→w.heap.size≤p.block)∧G.map Prod.fst=xs∧
  (∀g∈G,ItR w' w'.heap.size g.1 g.2∧ItF w.heap.size g.2∧ItOk g.1)∧aV w.heap.size w w'
def KnY:Prop:= ∀w,aU bH 6 #[] w fun e w'=>e=aJ (aG aF)∧aV w.heap.size w w'
theorem Wx(hk:KnY)(A:Option aW)(n c:Nat)(N:Int)(w:aS)(hm:n≤c)(hc:c≤bB)(h:n>4000∨N<0∨(n:Int)<N):
  aU bH 3 #[aL A n c,O Y N] w fun e w'=>e=aJ (aG aF)∧aV w.heap.size w w':=by
 unfold bB at hc;have HK:=bK hk;clear hk;by_cases h1:n>4000
 ·have i1:(4000:Int)<(n:Int):=by omega
  have i1':4000<n:=h1;clear h;go_enter xW,ntmps3;go_wp2_with fail;go_fit(HK.out w);rintro e w2 ⟨rfl,hb⟩;go_wp2;go_ret;exact⟨D,hb⟩
 have i1: ¬(4000:Int)<(n:Int):=by omega
 have i1': ¬4000<n:=by omega
 by_cases h2:N<0
 ·clear h;go_enter xW,ntmps3;go_wp2_with fail;go_fit(HK.out w);rintro e w2 ⟨rfl,hb⟩;go_wp2;go_ret;exact⟨D,hb⟩
 have h3:(n:Int)<N:=by omega
 clear h;go_enter xW,ntmps3;go_wp2_with fail;go_fit(HK.out w);rintro e w2 ⟨rfl,hb⟩;go_wp2;go_ret;exact⟨D,hb⟩
theorem Zs(hk:KnY)(A:Option aW)(n c N:Nat)(b:List UInt8)(w:aS)(h:Rd w w.heap.size 1 A n c (bv b))(hn:n≤4000)(hN:N≤n):
  aU bH 3 #[aL A n c,O Y (N:Int)] w fun e w'=>e=aJ (aG aF)∧aV w.heap.size w w':=by
 have oJ:=h.blen;have hmc:=h.le;have HK:=bK (hk w);have i1: ¬(4000:Int)<(n:Int):=by omega
 have i1': ¬4000<n:=by omega
 have i2: ¬(N:Int)<0:=by omega
 have i3: ¬(n:Int)<(N:Int):=by omega
 have i3': ¬n<N:=by omega
 have hcut: ∀w,(Instr.slice 22 (aL A n c) J (aE (O Y (N:Int))) J).run bH w= .ok (aL A N c) w:=by obtain⟨i0,hi⟩:=eW nP;exact tL (P:=bH) dH hi.1 A n c N (by omega)
 have Lj:(b.take N).length=N:=List.length_take_of_le (by omega);obtain⟨C1,Tj⟩: ∃C,C=Nr (b.take N):=⟨_,D⟩;obtain⟨E1,hE1⟩: ∃x,x=uO (gW (b.take N)):=⟨_,D⟩;obtain⟨L1,NV⟩: ∃x,x=(b.take N).length-uO (gW (b.take N)):=⟨_,D⟩;obtain⟨C2,DM⟩: ∃C,C=Nr b:=⟨_,D⟩;obtain⟨E2,hE2⟩: ∃x,x=uO (gW b):=⟨_,D⟩;obtain⟨L2,CS⟩: ∃x,x=b.length-uO (gW b):=⟨_,D⟩;have H1:Hid (∀(w':aS),aV w.heap.size w w'→aU bH 7 #[aL A N c] w' (VM w' C1 L1 (fB (gW (b.take N))))):=bK (fun w' hw=>by rw[Tj,NV];exact Gj A N c w.heap.size (b.take N) w' ((h.btake hN).up hw) hw.size (by omega));have H2:Hid (∀(w':aS),aV w.heap.size w w'→aU bH 7 #[aL A n c] w' (VM w' C2 L2 (fB (gW b)))):=bK (fun w' hw=>by rw[DM,CS];exact Gj A n c w.heap.size b w' (h.up hw) hw.size (by omega));have HC1:=bK Tj;have HC2:=bK DM;have HL1:=bK (bO NV (bO hE1 Lj));have HL2:=bK (bO CS hE2);have HT:=bK (Uy b N (by omega));have Hll:=bK oJ;clear hk h oJ Tj DM hE1 hE2 NV CS Lj;go_enter xW,ntmps3;go_wp2_with fail;go_fit HK.out;rintro e w1 ⟨rfl,hb1⟩;go_wp2_with fail;go_fit(H1.out w1 hb1);rintro e w2 ⟨A1,n1,c1,G1,rfl,hR1,hF1,jf,hG1,hbx⟩;have hb2:=eI hb1 hbx;have hm:=bS w2 (aI #[O Y 0,O Y 0,O Y 0,O Y 0,O Y 0,O Y 0,O Y 0,O Y 0,O Y 0,O Y 0,O Y 0,O Y 0,O Y 0] 27);have rW:aV w2.heap.size w2 (w2.alloc (aI #[O Y 0,O Y 0,O Y 0,O Y 0,O Y 0,O Y 0,O Y 0,O Y 0,O Y 0,O Y 0,O Y 0,O Y 0,O Y 0] 27)):=(bP _ _).alloc (bM _) _;have hb3:=eI hb2 rW;clear hbx hb1;go_wp2_with(with_reducible refine sG [27] ?_);refine eL (bQ D _ _ _ D w2.heap.size (e7 C1).toArray D D _ _ hm (S6 _) D (Vs _).all ?_);have yO:=bW _ _ _ (e7 C1).toArray _ _ hm;have hb4:=cB hb3 hb2.size (e7 C1).toArray;have hx24:=cB rW (bM _) (e7 C1).toArray;have VB:=(hR1.up hx24).more hx24.size;have hG4: ∀g∈G1,ItR _ _ g.1 g.2∧ItOk g.1:=fun g hg=>⟨(hG1 g hg).1.nx hx24,(hG1 g hg).2.2⟩;have OG:=bT yO;have HG:=bK (bO VB (bO hG4 jf));clear hm rW hb3 hR1 hF1 jf hG1 hb2 hx24 VB hG4 H1 HK;generalize w2.heap.size=g1 at*;generalize((w2.alloc (aI #[O Y 0,O Y 0,O Y 0,O Y 0,O Y 0,O Y 0,O Y 0,O Y 0,O Y 0,O Y 0,O Y 0,O Y 0,O Y 0] 27)).setRow g1 (e7 C1).toArray)=w4 at*
 go_wp2_with fail;go_fit(H2.out w4 hb4);rintro e w5 ⟨A2,n2,c2,G2,rfl,hR2,hF2,sx,hG2,hbx⟩;have hb5:=eI hb4 hbx;have fi:=bV yO hbx OG;have hRo:RdR w5 w5.heap.size 120 A1 n1 c1 (G1.map fun g=>jR g.1 g.2):=(HG.out.1.up hbx).more hbx.size;have hGo: ∀g∈G1,ItR w5 w5.heap.size g.1 g.2∧ItOk g.1:=fun g hg=>⟨(HG.out.2.1 g hg).1.nx hbx,(HG.out.2.1 g hg).2⟩;have hm:=bS w5 (aI #[O Y 0,O Y 0,O Y 0,O Y 0,O Y 0,O Y 0,O Y 0,O Y 0,O Y 0,O Y 0,O Y 0,O Y 0,O Y 0] 27);have rW:aV w5.heap.size w5 (w5.alloc (aI #[O Y 0,O Y 0,O Y 0,O Y 0,O Y 0,O Y 0,O Y 0,O Y 0,O Y 0,O Y 0,O Y 0,O Y 0,O Y 0] 27)):=(bP _ _).alloc (bM _) _;have hb6:=eI hb5 rW;have XK:=bV fi rW (bT fi);have aK4:=bT fi;clear hbx hb4 yO fi OG H2;go_wp2_with(with_reducible refine sG [27] ?_);refine eL (bQ D _ _ _ D w5.heap.size (e7 C2).toArray D D _ _ hm (S6 _) D (Vs _).all ?_);have Ko:=bW _ _ _ (e7 C2).toArray _ _ hm;have hb7:=cB hb6 hb5.size (e7 C2).toArray;have jx:=(dZ (w:=w5.alloc (aI #[O Y 0,O Y 0,O Y 0,O Y 0,O Y 0,O Y 0,O Y 0,O Y 0,O Y 0,O Y 0,O Y 0,O Y 0,O Y 0] 27)) w5.heap.size (e7 C2).toArray).keep XK (by omega);have hx57:=cB rW (bM _) (e7 C2).toArray;have vg:=(hRo.up hx57).more hx57.size;have hR7:=(hR2.up hx57).more hx57.size;have gg: ∀g∈G1,ItR _ _ g.1 g.2∧ItOk g.1:=fun g hg=>⟨(hGo g hg).1.nx hx57,(hGo g hg).2⟩;have hG7: ∀g∈G2,ItR _ _ g.1 g.2:=fun g hg=>(hG2 g hg).1.nx hx57;have As:=HG.out.2.2;have wB:(fB (gW (b.take N))).length=n1:=by rw[←As,dA];have:=hRo.1;rwa[dA] at this
 have tM:(fB (gW b)).length=n2:=by rw[←sx,dA];have:=hR2.1;rwa[dA] at this
 obtain⟨t1,t2,t3,t4,t5,t6⟩:=HT.out;rw[wB,tM] at t1;rw[wB] at t2;obtain⟨ii,bs,vh,_⟩:=Qm;have aDm:=hR2.2.2.1;have Tr: ∀w,(Instr.slice 24 (aL A2 n2 c2) J (aE (O Y (n1:Int))) J).run bH w= .ok (aL A2 n1 c2) w:=tL (P:=bH) nW vh A2 n2 c2 n1 (by omega);have HS:=bK (Zo A1 A2 n1 c1 c2 G1 (G2.take n1) _ vg (by have:=hR7.takeN t1;rwa[←List.map_take] at this) (by rw[As,List.map_take,sx];exact t2.symm) (fun g hg=>⟨(gg g hg).1,(gg g hg).2,QC _ _ (by rw[←As];exact List.mem_map_of_mem hg)⟩) (fun g hg=>hG7 g (mD hg)));rw[←HL1.out.2.1] at t4 t6;obtain⟨CS,hE2⟩:=HL2.out;have DM:=HC2.out;rw[←hE2] at t5 t6 CS;rw[Hll.out] at t5 CS;have e1:=HL1.out.1;rw[←HL1.out.2.1,HL1.out.2.2] at e1;have cg: ∀p,C1.g p≤C2.g p∧C1.o p≤C2.o p∧C1.b p≤C2.b p:=fun p=>by rw[HC1.out,DM,(yE _ p).1,(yE _ p).2.1,(yE _ p).2.2.1,(yE _ p).1,(yE _ p).2.1,(yE _ p).2.2.1];exact t3 p
 have Hcg:=bK cg;have vi:C1.inn=N:=by rw[HC1.out,(yE _ 0).2.2.2,HL1.out.2.2]
 have vj:C2.inn=n:=by rw[DM,(yE _ 0).2.2.2,Hll.out]
 have Hin:=bK (bO vi vj);have j1: ¬(n2:Int)<(n1:Int):=by omega
 have j1': ¬n2<n1:=by omega
 have j2: ¬(N:Int)<(L1:Int):=by omega
 have j2': ¬N<L1:=by omega
 have j3: ¬(n:Int)<(L2:Int):=by omega
 have j3': ¬n<L2:=by omega
 have j4:IntKind.i64.wrap ((n:Int)-(L2:Int))=(E2:Int):=by rw[fV _ (by omega)];omega
 have j5:IntKind.i64.wrap ((N:Int)-(L1:Int))=(E1:Int):=by rw[fV _ (by omega)];omega
 have j6: ¬(E2:Int)<(E1:Int):=by omega
 have j6': ¬E2<E1:=by omega
 clear hm rW hb5 hb6 XK hRo hR2 hGo hG2 hF2 hx57 vg hR7 gg hG7 As wB tM t1 t2 t3 t4 t5 t6 vh DM hE2 CS e1 cg vi vj aDm HG HT HL1 HL2 HC1 HC2 sx;generalize w5.heap.size=g2 at*;generalize((w5.alloc (aI #[O Y 0,O Y 0,O Y 0,O Y 0,O Y 0,O Y 0,O Y 0,O Y 0,O Y 0,O Y 0,O Y 0,O Y 0,O Y 0] 27)).setRow g2 (e7 C2).toArray)=w7 at*;go_wp2_with fail;go_fit HS.out;rintro e w8 ⟨rfl,hbx⟩;have hc8:=bV jx hbx (bT jx);have Xd:=bV Ko hbx (bT Ko);have hb8:=eI hb7 hbx;clear hbx hb7 jx Ko HS Tr;go_wp2_with fail;go_loopw [11] (fun p wr=> ∃k:Nat,k≤4∧p=O Y (k:Int)∧wr.heap[g1]?=aE (aI (e7 C1).toArray 27)∧wr.heap[g2]?=aE (aI (e7 C2).toArray 27)∧aV w.heap.size w wr) (fun p _=>4-(bE p).toNat);case atStart=>exact⟨0,by omega,D,hc8,Xd,hb8⟩
 case round=>
  clear hc8 Xd hb8 j1 j1' j2 j2' j3 j3' j4 j5 j6 j6';obtain⟨k,hk,rfl,hc,hm,hb⟩:=hrel;have Hw:=bK (bO hc (bO hm hb));clear hb;by_cases fF:k<4
  ·have h4:k=0∨k=1∨k=2∨k=3:=by omega
   rcases h4 with rfl|rfl|rfl|rfl
   ·have q:=Hcg.out 0;have u1: ¬(C2.g 0:Int)<(C1.g 0:Int):=by omega
    have u2: ¬(C2.o 0:Int)<(C1.o 0:Int):=by omega
    have u3: ¬(C2.b 0:Int)<(C1.b 0:Int):=by omega
    have v1: ¬C2.g 0<C1.g 0:=by omega
    have v2: ¬C2.o 0<C1.o 0:=by omega
    have v3: ¬C2.b 0<C1.b 0:=by omega
    have c1:=bL (i:=1) (v:=O Y (C1.g 0:Int)) hc D;have c2:=bL (i:=5) (v:=O Y (C1.o 0:Int)) hc D;have c3:=bL (i:=9) (v:=O Y (C1.b 0:Int)) hc D;have d1:=bL (i:=1) (v:=O Y (C2.g 0:Int)) hm D;have d2:=bL (i:=5) (v:=O Y (C2.o 0:Int)) hm D;have d3:=bL (i:=9) (v:=O Y (C2.b 0:Int)) hm D;clear hc hm q;go_wp2_with fail;go_quiet (fail);go_wp2;go_roundw;case rel=>exact⟨1,by omega,D,Hw.out.1,Hw.out.2.1,⟨Hw.out.2.2.os,Hw.out.2.2.tape,Hw.out.2.2.output,Hw.out.2.2.size,Hw.out.2.2.block⟩⟩
    case measure=>simp[bE]
   ·have q:=Hcg.out 1;have u1: ¬(C2.g 1:Int)<(C1.g 1:Int):=by omega
    have u2: ¬(C2.o 1:Int)<(C1.o 1:Int):=by omega
    have u3: ¬(C2.b 1:Int)<(C1.b 1:Int):=by omega
    have v1: ¬C2.g 1<C1.g 1:=by omega
    have v2: ¬C2.o 1<C1.o 1:=by omega
    have v3: ¬C2.b 1<C1.b 1:=by omega
    have c1:=bL (i:=2) (v:=O Y (C1.g 1:Int)) hc D;have c2:=bL (i:=6) (v:=O Y (C1.o 1:Int)) hc D;have c3:=bL (i:=10) (v:=O Y (C1.b 1:Int)) hc D;have d1:=bL (i:=2) (v:=O Y (C2.g 1:Int)) hm D;have d2:=bL (i:=6) (v:=O Y (C2.o 1:Int)) hm D;have d3:=bL (i:=10) (v:=O Y (C2.b 1:Int)) hm D;clear hc hm q;go_wp2_with fail;go_quiet (fail);go_wp2;go_roundw;case rel=>exact⟨2,by omega,D,Hw.out.1,Hw.out.2.1,⟨Hw.out.2.2.os,Hw.out.2.2.tape,Hw.out.2.2.output,Hw.out.2.2.size,Hw.out.2.2.block⟩⟩
    case measure=>simp[bE]
   ·have q:=Hcg.out 2;have u1: ¬(C2.g 2:Int)<(C1.g 2:Int):=by omega
    have u2: ¬(C2.o 2:Int)<(C1.o 2:Int):=by omega
    have u3: ¬(C2.b 2:Int)<(C1.b 2:Int):=by omega
    have v1: ¬C2.g 2<C1.g 2:=by omega
    have v2: ¬C2.o 2<C1.o 2:=by omega
    have v3: ¬C2.b 2<C1.b 2:=by omega
    have c1:=bL (i:=3) (v:=O Y (C1.g 2:Int)) hc D;have c2:=bL (i:=7) (v:=O Y (C1.o 2:Int)) hc D;have c3:=bL (i:=11) (v:=O Y (C1.b 2:Int)) hc D;have d1:=bL (i:=3) (v:=O Y (C2.g 2:Int)) hm D;have d2:=bL (i:=7) (v:=O Y (C2.o 2:Int)) hm D;have d3:=bL (i:=11) (v:=O Y (C2.b 2:Int)) hm D;clear hc hm q;go_wp2_with fail;go_quiet (fail);go_wp2;go_roundw;case rel=>exact⟨3,by omega,D,Hw.out.1,Hw.out.2.1,⟨Hw.out.2.2.os,Hw.out.2.2.tape,Hw.out.2.2.output,Hw.out.2.2.size,Hw.out.2.2.block⟩⟩
    case measure=>simp[bE]
   ·have q:=Hcg.out 3;have u1: ¬(C2.g 3:Int)<(C1.g 3:Int):=by omega
    have u2: ¬(C2.o 3:Int)<(C1.o 3:Int):=by omega
    have u3: ¬(C2.b 3:Int)<(C1.b 3:Int):=by omega
    have v1: ¬C2.g 3<C1.g 3:=by omega
    have v2: ¬C2.o 3<C1.o 3:=by omega
    have v3: ¬C2.b 3<C1.b 3:=by omega
    have c1:=bL (i:=4) (v:=O Y (C1.g 3:Int)) hc D;have c2:=bL (i:=8) (v:=O Y (C1.o 3:Int)) hc D;have c3:=bL (i:=12) (v:=O Y (C1.b 3:Int)) hc D;have d1:=bL (i:=4) (v:=O Y (C2.g 3:Int)) hm D;have d2:=bL (i:=8) (v:=O Y (C2.o 3:Int)) hm D;have d3:=bL (i:=12) (v:=O Y (C2.b 3:Int)) hm D;clear hc hm q;go_wp2_with fail;go_quiet (fail);go_wp2;go_roundw;case rel=>exact⟨4,by omega,D,Hw.out.1,Hw.out.2.1,⟨Hw.out.2.2.os,Hw.out.2.2.tape,Hw.out.2.2.output,Hw.out.2.2.size,Hw.out.2.2.block⟩⟩
    case measure=>simp[bE]
  ·obtain rfl:k=4:=by omega
   have c0:=bL (i:=0) (v:=O Y (C1.inn:Int)) hc D;have d0:=bL (i:=0) (v:=O Y (C2.inn:Int)) hm D;rw[Hin.out.1] at c0;rw[Hin.out.2] at d0;clear hc hm;go_wp2;go_ret;exact⟨D,Hw.out.2.2⟩
end
section
open Go.RowKit NumLaw
theorem Kz(A:Option aW)(n c:Nat)(b:List UInt8)(N:Int)(w:aS)(h:Rd w w.heap.size 1 A n c (bv b))(hN: -9223372036854775808≤N∧N≤9223372036854775807):
  aU bH 3 #[aL A n c,O Y N] w fun e w'=>e=aJ (aG aF)∧aV w.heap.size w w':=by
 by_cases h1:n>4000∨N<0∨(n:Int)<N
 ·exact Wx KF A n c N w h.le h.max h1
 ·obtain⟨M,rfl⟩: ∃M:Nat,N=(M:Int):=⟨N.toNat,by omega⟩;exact Zs KF A n c M b w h (by omega) (by omega)
end
end Go.Proofs.YtfoabhdppkjmbaaGreat
