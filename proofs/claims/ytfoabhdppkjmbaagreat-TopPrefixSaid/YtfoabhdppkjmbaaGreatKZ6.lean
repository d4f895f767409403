import Derived.Test.YtfoabhdppkjmbaaGreatKZ5
import Derived.ChangeAlike
import Derived.Outline
set_option linter.unusedSimpArgs false
set_option linter.unusedVariables false
set_option maxHeartbeats 4000000
set_option maxRecDepth 10000
namespace Go.Proofs.YtfoabhdppkjmbaaGreat
open Bool renaming false→aD,true→aF
open Go renaming Addr→aW,Calls→aU,Ending→aX,Program→aZ,TypeId→aY,Value→aT,World→aS,maxLen→bB
open Go.Ending renaming returned→aJ
open Go.IntKind renaming i64→Y
open Go.Obj renaming cells→aI
open Go.Proofs.Tryz renaming prog→bH
open Go.RowKit renaming Below→aV,intOf→bE
open Go.Value renaming agg→aM,bool→aG,int→O,pointer→aK,slice→aL,string→aH,tuple→aN
open Option renaming none→J,some→aE
open Go.Proofs.Tryz
namespace NumLaw
end NumLaw
section
open Go.RowKit NumLaw
attribute [local go_sem] Addr.add_mid
abbrev iN:=@List.drop_zero
abbrev uI:=@Nat.mul_le_mul
abbrev vL:=@Prod.mk.injEq
theorem Qk(n:Nat)(w:aS)(hn:n≤18):aU bH 390 #[O Y (n:Int)] w fun e w'=>e=aJ (O Y ((10 ^ n:Nat):Int))∧w=w':=by
 go_enter func390,ntmps390;go_wp2
 go_loop [3,5] (fun p i=> ∃k:Nat,k≤n∧i=O Y (k:Int)∧p=O Y ((10 ^ k:Nat):Int)) (fun _ i=>n-(bE i).toNat)
 case atStart=>exact⟨0,fT _,D,D⟩
 case round=>
  obtain⟨k,hk,rfl,rfl⟩:=hrel;have hp:10 ^ k≤10 ^ 18:=fJ (by omega) (by omega);by_cases fF:k<n
  ·have hp1:10 ^(k+1)≤10 ^ 18:=fJ (by omega) (by omega);have hs:10 ^(k+1)=10 ^ k*10:=nV _ _;obtain⟨p,yC⟩: ∃p,p=10 ^ k:=⟨_,D⟩;have HS:Hid (10 ^(k+1)=p*10):=bK (by rw[yC];exact hs);rw[←yC] at hp ⊢;have hq:p*10≤10 ^ 18:=by rw[←HS.out];exact hp1
   clear yC hs hp1;simp only[Nat.reducePow] at hp hq;go_wp2
   go_round
   case rel=>exact⟨k+1,by omega,by go_num,by rw[HS.out];go_num⟩
   case measure=>simp[bE];omega
  ·obtain rfl:k=n:=by omega
   go_wp2;go_ret;exact⟨D,D⟩
theorem FM{f n:Nat}{l:List UInt8}(h:f=0∨l= []∨∃c t,l=c::t∧Jd c=aD):vV f n l=(0,n,l):=by
 rcases h with rfl|rfl|⟨c,t,rfl,hc⟩
 ·rfl
 ·cases f<;>rfl
 ·cases f
  ·rfl
  ·show(if Jd c=aF then _ else _)=_;rw[bX (by rw[hc];decide)]
theorem bz{f n:Nat}{c:UInt8}{t:List UInt8}(h:Jd c=aF):vV (f+1) n (c::t)=((vV f (10*n+(c.toNat-48)) t).1+1,(vV f (10*n+(c.toNat-48)) t).2):=by
 show(if Jd c=aF then _ else _)=_;rw[bY h]
def KL(w:aS)(ga gn k:Nat)(q:Nat × Nat × List UInt8)(e:aX)(w':aS):Prop:=
 e=aJ (O Y (q.1:Int))∧w'.heap[ga]?=aE (aI #[O Y ((k+q.1:Nat):Int)] 3)∧w'.heap[gn]?=aE (aI #[O Y (q.2.1:Int)] 2)∧Aw (fun i=>i=ga∨i=gn) w w'
theorem Mr(ga gs gn:Nat)(s:ByteArray)(k n most:Nat)(w:aS)(hs:w.heap[gs]?=aE (aI #[aH s] 9))(ha:w.heap[ga]?=aE (aI #[O Y (k:Int)] 3))(hn:w.heap[gn]?=aE (aI #[O Y (n:Int)] 2))
  (d1:gs≠ga) (d2:gs≠gn) (d3:ga≠gn) (hk:k≤s.size) (hm:most≤12) (e0:Nat) (he:n<10 ^ e0) (he2:e0+most≤15) (hz:s.size≤1000000):
  aU bH 391 #[O Y (most:Int),aK (aE ⟨ga,0,J⟩),aK (aE ⟨gs,0,J⟩),aK (aE ⟨gn,0,J⟩)] w (KL w ga gn k (vV (most+1) n ((sb s).drop k))):=by
 obtain⟨q,hq⟩: ∃q,q=vV (most+1) n ((sb s).drop k):=⟨_,D⟩;have HQ:=bK hq;rw[←hq];clear hq;have D1:=bK d1;have D2:=bK d2;have D3:=bK d3;clear d1 d2 d3;go_enter func391,ntmps391;go_wp2
 go_loopw [6] (fun kk wr=> ∃j p n1:Nat,kk=O Y (j:Int)∧p=k+j∧p≤s.size∧j≤most+1∧wr.heap[ga]?=aE (aI #[O Y (p:Int)] 3)∧wr.heap[gn]?=aE (aI #[O Y (n1:Int)] 2)∧
   n1<10 ^(e0+j)∧Aw (fun i=>i=ga∨i=gn) w wr∧Hid (q=((vV (most+1-j) n1 ((sb s).drop p)).1+j,(vV (most+1-j) n1 ((sb s).drop p)).2))) (fun kk _=>most+1-(bE kk).toNat)
 case atStart=>exact⟨0,k,n,D,D,hk,by omega,ha,hn,he,cY _ _,bK HQ.out⟩
 case round=>
  obtain⟨j,p,n1,rfl,hp,CQ,hj,ha1,wB,hb1,haw,HN⟩:=hrel;have hs1:=haw.keep hs (fun e=>by rcases e with e|e;exact D1.out e;exact D2.out e);have HP:=bK hp;clear hp ha hn hs he;have c1:=bL (i:=0) (v:=O Y (p:Int)) ha1 D;have c2:=bL (i:=0) (v:=aH s) hs1 D;have c3:=bL (i:=0) (v:=O Y (n1:Int)) wB D;have stop: ∀(h:most+1-j=0∨(sb s).drop p= []∨∃c t,(sb s).drop p=c::t∧Jd c=aD),KL w ga gn k q (aJ (O Y (j:Int))) wr:=fun h=>by have e:=HN.out;rw[FM h] at e;simp only[fZ] at e;rw[e];exact⟨D,by rw[←HP.out];exact ha1,wB,haw⟩
  by_cases fF:p<s.size
  ·have HD:=bK (qF s p fF);have z7:(p:Int)<(s.size:Int):=by omega
   by_cases P3:48≤s[p].toNat
   ·have i48:(48:Int)≤(s[p].toNat:Int):=by omega
    by_cases Y5:s[p].toNat≤57
    ·have i57:(s[p].toNat:Int)≤57:=by omega
     have hdg:Jd s[p]=aF:=by simp[Jd];omega
     by_cases hjm:j≤most
     ·have ijm:(j:Int)≤(most:Int):=by omega
      have f1:=bZ (i:=0) ha1;have f3:=bZ (i:=0) wB;have pw:10 ^(e0+j)≤10 ^ 15:=fJ (by omega) (by omega);have po:(n1:Int)≤1000000000000000:=by omega
      obtain⟨d,hd⟩: ∃d,d=s[p].toNat-48:=⟨_,D⟩;have hdi:(10*(n1:Int)+((s[p].toNat:Int)-48))=((10*n1+d:Nat):Int):=by omega
      have g2:=cN (i:=0) wB (O Y (10*(n1:Int)+((s[p].toNat:Int)-48)));have ha2:Aw (fun i=>i=ga∨i=gn) wr (wr.setCell ⟨gn,0,J⟩ (O Y (10*(n1:Int)+((s[p].toNat:Int)-48)))).drew:=((cY _ wr).set _ (.inr D)).drew;have g1:(wr.setCell ⟨gn,0,J⟩ (O Y (10*(n1:Int)+((s[p].toNat:Int)-48)))).drew.heap[ga]?=_:=(nI _ _ _ _ (fun e=>D3.out e)).trans ha1;replace g2:(wr.setCell ⟨gn,0,J⟩ (O Y (10*(n1:Int)+((s[p].toNat:Int)-48)))).drew.heap[gn]?=aE (aI #[O Y ((10*n1+d:Nat):Int)] 2):=by rw[←hdi];exact g2
      have hgo:=bz (f:=most-j) (n:=n1) (c:=s[p]) (t:=(sb s).drop (p+1)) hdg;rw[←hd,show most-j+1=most+1-j by omega,←HD.out] at hgo;have HG:=bK hgo;have HB:Hid (10*n1+d<10 ^(e0+(j+1))):=bK (by rw[←Nat.add_assoc,nV];omega);clear hgo hdg stop hd pw hdi;go_wp2
      go_region
      generalize(wr.setCell ⟨gn,0,J⟩ (O Y (10*(n1:Int)+((s[p].toNat:Int)-48)))).drew=w2 at*;clear c1 c2 c3 f1 f3 ha1 wB hs1;have c1:=bL (i:=0) (v:=O Y (p:Int)) g1 D;have f1:=bZ (i:=0) g1;have g3:=cN (i:=0) g1 (O Y ((p:Int)+1));have g4:(w2.setCell ⟨ga,0,J⟩ (O Y ((p:Int)+1))).heap[gn]?=_:=(nI _ _ _ _ (fun e=>D3.out e.symm)).trans g2;have ha3:=haw.trans (ha2.set (p:=⟨ga,0,J⟩) (O Y ((p:Int)+1)) (.inl D));clear haw ha2;go_wp2;go_roundw;case rel=>exact⟨j+1,p+1,10*n1+d,by go_num,by have:=HP.out;omega,by omega,by omega,by rw[show((p+1:Nat):Int)=(p:Int)+1 by omega];exact g3,g4,HB.out,ha3,bK (by rw[HN.out,HG.out,show most+1-(j+1)=most-j by omega];simp only[vL,and_true];omega)⟩
      case measure=>simp[bE];omega
     ·have ijm: ¬(j:Int)≤(most:Int):=by omega
      have hret:=bK (stop (.inl (by omega)));clear stop;go_wp2;go_ret;exact hret.out
    ·have i57: ¬(s[p].toNat:Int)≤57:=by omega
     have hret:=bK (stop (.inr (.inr ⟨_,_,HD.out,by simp[Jd];omega⟩)));clear stop;go_wp2;go_ret;exact hret.out
   ·have i48: ¬(48:Int)≤(s[p].toNat:Int):=by omega
    have hret:=bK (stop (.inr (.inr ⟨_,_,HD.out,by simp[Jd];omega⟩)));clear stop;go_wp2;go_ret;exact hret.out
  ·have z7: ¬(p:Int)<(s.size:Int):=by omega
   have hret:=bK (stop (.inr (.inl (gF (by rw[iI];omega)))));clear stop;go_wp2;go_ret;exact hret.out
theorem cJ{a A' B':aS}{U:Nat→Prop}(h:aV a.heap.size a A')(ha:Aw U A' B')(hu: ∀k,U k→a.heap.size≤k):aV a.heap.size a B':=
 ⟨ha.os.trans h.os,ha.tape.trans h.tape,ha.output.trans h.output,bU h.size ha.size,fun k hk=>(ha.block k (cI hk h.size) (fun hU=>by have:=hu k hU;omega)).trans (h.block k hk)⟩
theorem Yc{f n e:Nat}{l:List UInt8}(h:n<10 ^ e):(vV f n l).2.1<10 ^(e+(vV f n l).1):=Nv f n e l h
def PK(o:Option Nat):aT:=aN #[O Y ((o.getD 0:Nat):Int),aG o.isSome]
def Yl(w:aS)(o:Option Nat)(e:aX)(w':aS):Prop:=e=aJ (PK o)∧aV w.heap.size w w'
theorem Mw{n:Nat}(hn:n≤18)(w:aS):aU bH 390 #[O Y (n:Int)] w fun e w'=>e=aJ (O Y ((10 ^ n:Nat):Int))∧w'=w:=(Qk n w hn).mono fun e w' ⟨h1,h2⟩=>⟨h1,h2.symm⟩
theorem E9(s:ByteArray)(least most frac:Nat)(w:aS)(hl:least≤12)(hm:most≤8)(hf:frac≤6)(hz:s.size≤1000000):
  aU bH 384 #[aH s,O Y (least:Int),O Y (most:Int),O Y (frac:Int)] w (Yl w (mO (sb s) least most frac)):=by
 obtain⟨hs,hn,ha,iJ,hb⟩:=WD w (aI #[aH s] 9) (aI #[O Y 0] 2) (aI #[O Y 0] 3);obtain⟨q,hq⟩: ∃q,q=vV (most+1) 0 (sb s):=⟨_,D⟩;have hN:=Mr (w.heap.size+2) w.heap.size (w.heap.size+1) s 0 0 most _ hs ha hn (by omega) (by omega) (by omega) (fT _) (by omega) 0 (by decide) (by omega) hz;rw[iN,←hq] at hN;have dq: ∀(fn:Fn) (first cap:Array aT) (w:aS),(Instr.makeFunc fn first cap).run bH w= .ok (.func fn first cap) w:=fun _ _ _ _=>rfl;obtain⟨q1,n2,tl⟩:=q;have hle:=Vd (most+1) 0 (sb s);have Cd:=Yc (f:=most+1) (n:=0) (e:=0) (l:=sb s) (by decide);rw[←hq] at hle Cd;obtain⟨hq1,htl,hql⟩:=hle;rw[iI] at hql;simp only at hq1 htl hql Cd;have HQ:=bK hq;have HT:=bK htl;clear hq htl;have bN: ∀(h:q1<least∨most<q1),mO (sb s) least most frac=J:=fun h=>by unfold mO;rw[←HQ.out,bY h]
 have HbN:=bK bN;have hS:((w.alloc (aI #[aH s] 9)).alloc (aI #[O Y 0] 2)).heap.size=w.heap.size+2:=by simp
 have HS:=bK hS;clear iJ bN hS;go_enter func384,ntmps384;go_wp2_with fail;go_fit hN;rintro e w2 ⟨rfl,ha2,tM,hA⟩;have hs2:=hA.keep hs (by omega);have hb2:=cJ hb hA (fun k hk=>by omega);simp only[fZ] at ha2;simp only at tM;clear hN hs ha hn hA hb;by_cases h1:q1<least
 ·have i1:(q1:Int)<(least:Int):=by omega
  have hP:=bK (HbN.out (.inl h1));go_wp2;go_ret2;exact⟨by rw[hP.out];rfl,hb2⟩
 have i1: ¬(q1:Int)<(least:Int):=by omega
 by_cases h2:most<q1
 ·have i2:(most:Int)<(q1:Int):=by omega
  have hP:=bK (HbN.out (.inr h2));go_wp2;go_ret2;exact⟨by rw[hP.out];rfl,hb2⟩
 have i2: ¬(most:Int)<(q1:Int):=by omega
 have HNo:Hid (¬(q1<least∨most<q1)):=bK (by omega);have c1:=bL (i:=0) (v:=O Y (q1:Int)) ha2 D;have c2:=bL (i:=0) (v:=aH s) hs2 D;have c3:=bL (i:=0) (v:=O Y (n2:Int)) tM D;clear h1 h2 HbN;have hp8:10 ^(0+q1)≤10 ^ 8:=fJ (by omega) (by omega);have hn8:n2<100000000:=by omega
 have aHy:(n2:Int)≤99999999:=by omega
 have HN8:=bK hn8;clear hp8 Cd hn8;by_cases h3:q1<s.size
 ·have i3:(q1:Int)<(s.size:Int):=by omega
  have HD:=bK (qF s q1 h3);by_cases h4:s[q1]=46
  ·have i4:(s[q1].toNat:Int)=46:=by rw[h4];rfl
   have f1:=bZ (i:=0) ha2;have g1:=cN (i:=0) ha2 (O Y ((q1:Int)+1));have g2:(w2.setCell ⟨w.heap.size+2,0,J⟩ (O Y ((q1:Int)+1))).heap[w.heap.size+1]?=_:=(nI _ _ _ _ (show w.heap.size+1≠w.heap.size+2 by omega)).trans tM;have g3:(w2.setCell ⟨w.heap.size+2,0,J⟩ (O Y ((q1:Int)+1))).heap[w.heap.size]?=_:=(nI _ _ _ _ (show w.heap.size≠w.heap.size+2 by omega)).trans hs2;have hb3:=cJ hb2 ((cY (fun k=>k=w.heap.size+2) w2).set (p:=⟨w.heap.size+2,0,J⟩) (O Y ((q1:Int)+1)) D) (fun k hk=>by omega);obtain⟨q',NZ⟩: ∃q',q'=vV (frac+1) n2 ((sb s).drop (q1+1)):=⟨_,D⟩;have hN:=Mr (w.heap.size+2) w.heap.size (w.heap.size+1) s (q1+1) n2 frac _ g3 (by rw[show((q1+1:Nat):Int)=(q1:Int)+1 by omega];exact g1) g2 (by omega) (by omega) (by omega) (by omega) (by omega) 8 (by have:=HN8.out;omega) (by omega) hz;rw[←NZ] at hN;obtain⟨k1,n3,tl'⟩:=q';have hle:=Vd (frac+1) n2 ((sb s).drop (q1+1));have Lm:=Yc (f:=frac+1) (n:=n2) (e:=8) (l:=(sb s).drop (q1+1)) (by have:=HN8.out;omega);rw[←NZ] at hle Lm;obtain⟨EH,du,dv⟩:=hle;rw[iA,iI] at dv;simp only at EH du dv Lm;have hP:mO (sb s) least most frac=if k1<1∨frac<k1∨tl'≠ [] then J else aE (n3*10 ^(frac-k1)):=by unfold mO;rw[←HQ.out,bX HNo.out];simp only;rw[HT.out,HD.out];simp only;rw[bX (fun h=>h h4),←NZ]
   have htn:tl'= []↔¬q1+1+k1<s.size:=by rw[du,List.drop_drop,List.drop_eq_nil_iff,iI];omega
   have HP:=bK hP;have HN:=bK hN;have HL:=bK htn;clear hP hN htn du NZ h4 ha2 tM hs2 hb2;go_wp2_with fail;go_fit HN.out;rintro e w3 ⟨rfl,ha3,EI,hA⟩;have Ta:=hA.keep g3 (by omega);have hb4:=cJ hb3 hA (fun k hk=>by omega);clear HN g1 g2 g3 c1 c2 c3 f1 hA hb3;simp only at ha3 EI;have c1:=bL (i:=0) (v:=O Y ((q1+1+k1:Nat):Int)) ha3 D;have c2:=bL (i:=0) (v:=aH s) Ta D;have c3:=bL (i:=0) (v:=O Y (n3:Int)) EI D;clear ha3 EI Ta;by_cases h5:k1<1
   ·have i5:(k1:Int)<1:=by omega
    have hP:=bK (HP.out.trans (bY (.inl h5)));clear Lm;go_wp2;go_ret2;exact⟨by rw[hP.out];rfl,hb4⟩
   have i5: ¬(k1:Int)<1:=by omega
   by_cases h6:frac<k1
   ·have i6:(frac:Int)<(k1:Int):=by omega
    have hP:=bK (HP.out.trans (bY (.inr (.inl h6))));clear Lm;go_wp2;go_ret2;exact⟨by rw[hP.out];rfl,hb4⟩
   have i6: ¬(frac:Int)<(k1:Int):=by omega
   by_cases h7:q1+1+k1<s.size
   ·have i7:((q1+1+k1:Nat):Int)<(s.size:Int):=by omega
    have hP:=bK (HP.out.trans (bY (.inr (.inr (fun e=>HL.out.1 e h7)))));clear Lm;go_wp2;go_ret2;exact⟨by rw[hP.out];rfl,hb4⟩
   have i7: ¬((q1+1+k1:Nat):Int)<(s.size:Int):=by omega
   have hP:=bK (HP.out.trans (bX (fun h=>by rcases h with h|h|h;exact h5 h;exact h6 h;exact h (HL.out.2 h7))));obtain⟨P,OA⟩: ∃P,P=10 ^(frac-k1):=⟨_,D⟩;have hPb:n3*P<100000000000000:=by have h8:n3*10 ^(frac-k1)<10 ^(8+k1)*10 ^(frac-k1):=Nat.mul_lt_mul_of_pos_right Lm (Nat.pow_pos (by omega));rw[←Nat.pow_add] at h8;rw[OA];exact cI h8 (bU (fJ (by omega) (show 8+k1+(frac-k1)≤14 by omega)) (by decide))
   have px:(n3:Int)*(P:Int)≤100000000000000:=by rw[←pS];omega
   have py:0≤(n3:Int)*(P:Int):=by rw[←pS];omega
   have DC: ∀w,aU bH 390 #[O Y ((frac:Int)-(k1:Int))] w fun e w'=>e=aJ (O Y (P:Int))∧w'=w:=fun w=>by rw[show(frac:Int)-(k1:Int)=((frac-k1:Nat):Int) by omega,OA];exact Mw (by omega) w
   rw[←OA] at hP;have HW:=bK OA;clear OA hPb Lm h5 h6 h7;go_wp2;go_quiet ((go_at_call 390;exact Calls.quiet_of_same (DC _)));go_wp2;go_ret2;exact⟨by rw[hP.out];simp[PK],qS hb4 _⟩
  ·have i4: ¬(s[q1].toNat:Int)=46:=by
    intro e;exact h4 (UInt8.toNat_inj.1 (by rw[show(46:UInt8).toNat=46 from D];omega))
   have hP:mO (sb s) least most frac=J:=by unfold mO;rw[←HQ.out,bX HNo.out];simp only;rw[HT.out,HD.out];simp only;rw[bY h4]
   have HP:=bK hP;clear hP h4;go_wp2;go_ret2;exact⟨by rw[HP.out];rfl,hb2⟩
 ·have i3: ¬(q1:Int)<(s.size:Int):=by omega
  have hP:mO (sb s) least most frac=aE (n2*10 ^ frac):=by unfold mO;rw[←HQ.out,bX HNo.out];simp only;rw[HT.out,gF (by rw[iI];omega)]
  have HP:=bK hP;obtain⟨P,OA⟩: ∃P,P=10 ^ frac:=⟨_,D⟩;have hPl:P≤1000000:=by rw[OA];exact bU (fJ (by omega) hf) (by decide)
  have aH0:(P:Int)≤1000000:=by omega
  have hmul:n2*P≤100000000*1000000:=uI (by have:=HN8.out;omega) hPl;have px:(n2:Int)*(P:Int)≤100000000000000:=by rw[←pS];omega
  have py:0≤(n2:Int)*(P:Int):=by rw[←pS];omega
  have DC: ∀w,aU bH 390 #[O Y (frac:Int)] w fun e w'=>e=aJ (O Y (P:Int))∧w'=w:=fun w=>by rw[OA];exact Mw (by omega) w
  rw[←OA] at HP;clear hP OA hmul;go_wp2;go_quiet ((go_at_call 390;exact Calls.quiet_of_same (DC _)));go_wp2;go_ret2;exact⟨by rw[HP.out];simp[PK],qS hb2 _⟩
abbrev dA:=@List.length_map
abbrev jV:=@Nat.add_zero
abbrev lS:=@World.cell?_spot
abbrev lW:=@Addr.add_mid
abbrev nG:=@Nat.add_sub_cancel
abbrev pL:=@underlying332
abbrev qN:=@Option.some.injEq
theorem Jt:(Tryz.prog.info? 9).map (fun i=>(i.zero,i.size,i.bytes))=aE (aE (aH ⟨#[]⟩),1,16):=by kernel_rfl
def nY(l:List ByteArray):List aT:=l.map Value.string
theorem LC(l:List ByteArray): ∀v∈nY l,v.oneCell'=aF:=by
 intro v hv;obtain⟨s,_,rfl⟩:=List.mem_map.1 hv;rfl
def Xn(w:aS)(l:List ByteArray)(e:aX)(w':aS):Prop:=
 ∃A n c,e=aJ (aL A n c)∧w'.ownsRow w.heap.size 9 1 (aL A n c) n (nY l)∧l.length=n∧aV w.heap.size w w'
theorem Ry(A:Option aW)(n c B:Nat)(l:List ByteArray)(w:aS)(h:Rd w B 1 A n c (nY l))(hB:B≤w.heap.size)(hn:n≤1000):
  aU bH 371 #[aL A n c] w (Xn w l):=by
 obtain⟨i0,hi⟩:=eW Jt;have hl:l.length=n:=by have:=h.len;rw[rC,nY,dA] at this;exact this
 have Hl:=bK hl;have hq:=qD (P:=bH) w 332 9 A n c 0 0 pL;clear hl
 cases A with
 |none=>
  have Ao:n=0:=by
   rcases jN n with h0|h0
   ·exact h0
   ·obtain⟨_,h,_⟩:=h.at_ h0;cases h
  obtain rfl:l= []:=cU (by rw[Hl.out,Ao]);simp only[tF] at hq;clear Ao;go_enter func371,ntmps371;go_wp2;go_ret;exact⟨J,0,0,D,dF _ _ _ _,D,bP _ _⟩
 |some ad=>
  simp only[tE] at hq;go_enter func371,ntmps371;go_wp2_with(at_builtin;refine rP ?_);refine eL (vA (base:=w.heap.size) (n:=0) (xs:= []) pL hi D (by omega) (B4 _ _ _ (bM _) 1) D (h.up ((bP _ _).alloc hB _)) D (LC l) (fZ _) (eF _) (by unfold bB;omega) (by omega) (by simp) ?_);intro A' c' w' hown hup;have hb:aV w.heap.size w w':=hup ((bP _ _).alloc (bM _) _) (by simp) (bM _);clear hup hq;go_wp2;go_ret;exact⟨A',n,c',D,hown,Hl.out,hb⟩
def EyB(w:aS)(lo g:Nat)(st:kY):Prop:=
 ∃A n c,w.heap[g]?=aE (aI #[aG aF,O Y (st.1:Int),aL A n c] 566)∧Rd w g 1 A n c (nY st.2)∧(∀p,A=aE p→lo≤p.block)∧n≤1000
theorem EyB.keep{w w':aS}{lo g:Nat}{st:kY}{U:Nat→Prop}(h:EyB w lo g st)(ha:Aw U w w')(hU: ∀k,U k→k<lo∨g<k)(hlo:lo≤g):EyB w' lo g st:=by
 obtain⟨A,n,c,hg,hr,hl,hn⟩:=h;refine⟨A,n,c,ha.keep hg (fun hu=>by have:=hU g hu;omega),⟨hr.len,hr.le,hr.max,fun hn=> ?_⟩,hl,hn⟩;obtain⟨ad,e,hb,hc⟩:=hr.at_ hn;refine⟨ad,e,hb,fun j u hu=> ?_⟩;have h1:=hc j u hu;have fF:g<w.heap.size:=bT hg;have h2:=ha.block ad.block (by omega) (fun hu=>by have:=hU _ hu;have:=hl _ e;omega);unfold World.cell? at h1 ⊢;rw[lL] at h1 ⊢;rw[h2];exact h1
theorem EyB.lt{w:aS}{lo g:Nat}{st:kY}(h:EyB w lo g st):g<w.heap.size:=by obtain⟨A,n,c,hg,_⟩:=h;exact bT hg
theorem Rs(g e k:Nat)(v:aT)(w:aS)(h:w.heap[g]?=aE (aI #[aG aF,O Y (e:Int),v] 566)):
  aU bH 374 #[aK (aE ⟨g,0,J⟩),O Y (k:Int)] w fun x w'=>x=aJ (aN #[])∧w'.heap[g]?=aE (aI #[aG aF,O Y (ig e k:Int),v] 566)∧Aw (fun j=>j=g) w w':=by
 have c1:=bL (i:=1) (v:=O Y (e:Int)) h D;have f1:=bZ (i:=1) h;by_cases he:e=0
 ·subst he;have h2:=cN (i:=1) h (O Y (k:Int));have ha:Aw (fun j=>j=g) w (w.setCell ⟨g,1,J⟩ (O Y (k:Int))):=(cY _ w).set _ D;go_enter func374,ntmps374;go_wp2
  ((try simp only[Exit.inBlock,Exit.then]);refine dC (cT D _ _ _) D ?_)
  exact⟨D,h2,ha⟩
 ·have zZ: ¬(e:Int)=0:=by omega
  have hk:ig e k=e:=by unfold ig;rw[bX he]
  have HK:=bK hk;clear hk;go_enter func374,ntmps374;go_wp2
  ((try simp only[Exit.inBlock,Exit.then]);refine dC (cT D _ _ _) D ?_)
  exact⟨D,by rw[HK.out];exact h,cY _ _⟩
def e8(w:aS)(lo g:Nat)(v:aT)(st:kY)(e:aX)(w':aS):Prop:=e=aJ v∧EyB w' lo g st∧Aw (fun j=>j=g) w w'
theorem jL(lo g k:Nat)(st:kY)(w:aS)(h:EyB w lo g st)(hlo:lo≤g):
  aU bH 331 #[aK (aE ⟨g,0,J⟩),O Y (k:Int)] w (e8 w lo g (aN #[]) (tP st k)):=by
 obtain⟨A,n,c,hg,hr,hl,hn⟩:=h;have c0:=bL (i:=0) (v:=aG aF) hg D;have hN:=Rs g st.1 k (aL A n c) w hg;have HR:=bK hr;clear hr;go_enter func331,ntmps331;go_wp2_with fail;go_fit hN;rintro x w2 ⟨rfl,h2,ha⟩;have hr:=HR.out
 have hE:EyB w2 lo g (tP st k):=⟨A,n,c,h2,hr.keep fun p hp=>by
  unfold World.cell?;rcases iD p.block w.heap.size with h3|h3
  ·rw[ha.block p.block h3 (by omega)]
  ·exact absurd (bT hg) (by omega),hl,hn⟩
 go_wp2
 ((try simp only[Exit.inBlock,Exit.then]);refine dC (cT D _ _ _) D ?_)
 exact⟨D,hE,ha⟩
theorem kA(lo g:Nat)(st:kY)(w:aS)(h:EyB w lo g st)(hlo:lo≤g):
  aU bH 334 #[aK (aE ⟨g,0,J⟩)] w (e8 w lo g (aH (jA st).1) (jA st).2):=by
 obtain⟨A,n,c,hg,hr,hl,hn⟩:=h;obtain⟨e,l⟩:=st;have c0:=bL (i:=0) (v:=aG aF) hg D;have c2:=bL (i:=2) (v:=aL A n c) hg D;have f2:=bZ (i:=2) hg;have fF:=bT hg
 cases l with
 |nil=>
  obtain rfl:n=0:=by have:=hr.len;simpa [nY] using this.symm
  have hN:=Rs g e 3 (aL A 0 c) w hg;have HR:=bK hr;clear hr;go_enter func334,ntmps334;go_wp2_with fail;go_fit hN;rintro x w2 ⟨rfl,h2,ha⟩;have hr:=HR.out
  have hE:EyB w2 lo g (ig e 3,[]):=⟨A,0,c,h2,hr.keep fun p hp=>by
   unfold World.cell?
   rw[ha.block p.block (by omega) (by omega)],hl,hn⟩
  go_wp2;go_ret;exact⟨D,hE,ha⟩
 |cons s l=>
  have hln:l.length+1=n:=by have:=hr.len;simpa [nY] using this
  obtain⟨m,rfl⟩: ∃m,n=m+1:=⟨l.length,hln.symm⟩;obtain⟨ad,u,rfl,hu,hc⟩:=hr.one (show 0<m+1 by omega);obtain rfl:u=aH s:=by simpa [nY] using hu.symm
  have hmx:=hr.max;have hle:=hr.le;unfold bB at hmx;have hb:ad.block<g:=by obtain⟨_,e,hb,_⟩:=hr.at_ (by omega);injection e with e;rw[e];exact hb
  have hlb:=hl ad D;have J7:=lS hc;obtain⟨gr,off,sp⟩:=ad;simp only[Addr.add] at J7
  obtain rfl:sp=J:=by
   cases sp with
   |none=>rfl
   |some s=>simp at J7
  rw[lW,jV] at hc;replace hb:gr<g:=hb;replace hlb:lo≤gr:=hlb;obtain⟨i0,hi⟩:=eW Jt;have hcut: ∀w,(Instr.slice 332 (aL (aE ⟨gr,off,J⟩) (m+1) c) (aE (O Y 1)) J J).run bH w= .ok (aL (oH (aE ⟨gr,off,J⟩) c 1 1) (m+1-1) (c-1)) w:=fun w=>rG (P:=bH) pL hi.1 hi.2.2.1 _ (m+1) c 1 (by omega) w;have hdr:=hr.drop' (k:=1) (by omega);rw[show(nY (s::l)).drop (1*1)=nY l from D] at hdr;simp only[nG] at hcut hdr
  have hcl: ∀p,oH (aE ⟨gr,off,J⟩) c 1 1=aE p→lo≤p.block:=by
   intro p hp;unfold oH at hp;split at hp
   ·injection hp with hp;rw[←hp];exact hlb
   ·simp only[pR,qN] at hp;rw[←hp,lL];exact hlb
  generalize oH (aE ⟨gr,off,J⟩) c 1 1=A2 at*;have h2:=cN (i:=2) hg (aL A2 m (c-1));have ha:Aw (fun j=>j=g) w (w.setCell ⟨g,2,J⟩ (aL A2 m (c-1))):=(cY _ w).set _ D
  have hE:EyB (w.setCell ⟨g,2,J⟩ (aL A2 m (c-1))) lo g (e,l):=⟨A2,m,c-1,h2,hdr.keep fun p hp=>by
   unfold World.cell?
   rw[ha.block p.block (by omega) (by omega)],hcl,by omega⟩
  have HE:=bK hE;have HH:=bK ha;clear hE ha h2 hdr hr hu hln;go_enter func334,ntmps334;go_wp2;go_ret;exact⟨D,HE.out,HH.out⟩
theorem zI(lo g:Nat)(st:kY)(w:aS)(h:EyB w lo g st):
  aU bH 329 #[aK (aE ⟨g,0,J⟩)] w fun e w'=>e=aJ (O Y (st.1:Int))∧w=w':=by
 obtain⟨A,n,c,hg,hr,hl,hn⟩:=h;have c0:=bL (i:=0) (v:=aG aF) hg D;have c1:=bL (i:=1) (v:=O Y (st.1:Int)) hg D;clear hr hl;go_enter func329,ntmps329;go_wp2;go_ret;exact⟨D,D⟩
theorem j9(lo g:Nat)(st:kY)(w:aS)(h:EyB w lo g st):
  aU bH 357 #[aK (aE ⟨g,0,J⟩)] w fun e w'=>e=aJ (O Y (st.2.length:Int))∧w=w':=by
 obtain⟨A,n,c,hg,hr,hl,hn⟩:=h;have hln:st.2.length=n:=by have:=hr.len;simpa [nY] using this
 have c2:=bL (i:=2) (v:=aL A n c) hg D;have HN:=bK hln;clear hr hl hln;go_enter func357,ntmps357;go_wp2;go_ret;exact⟨by rw[HN.out];rfl,D⟩
def Lz(w:aS)(l:List ByteArray)(e:aX)(w':aS):Prop:= ∃g,e=aJ (aK (aE ⟨g,0,J⟩))∧EyB w' w.heap.size g (0,l)∧w.heap.size≤g∧g+1=w'.heap.size∧aV w.heap.size w w'
theorem xN(A:Option aW)(n c B:Nat)(l:List ByteArray)(w:aS)(h:Rd w B 1 A n c (nY l))(hB:B≤w.heap.size)(hn:n≤1000):
  aU bH 317 #[aL A n c] w (Lz w l):=by
 have hC:=Ry A n c B l w h hB hn;unfold Xn at hC;have b8:l.length=n:=by have:=h.len;simpa [nY] using this
 clear h;go_enter func317,ntmps317;go_wp2_with fail;go_fit hC;rintro x w2 ⟨A2,n2,c2,rfl,hown,hl,hb⟩;have hr:=oA hown;have hz:=hb.size;have h2:=bS w2 (aI #[aG aF,O Y 0,aL A2 n2 c2] 566)
 have hlo: ∀p,A2=aE p→w.heap.size≤p.block:=by
  intro p hp;rcases hown.2 with⟨h3,_⟩|⟨k,cap,cur,hv,hk,_⟩
  ·rw[hp] at h3;cases h3
  ·rw[hp] at hv;injection hv with hv;injection hv with hv;rw[hv];exact hk
 have hE:EyB (w2.alloc (aI #[aG aF,O Y 0,aL A2 n2 c2] 566)) w.heap.size w2.heap.size (0,l):=⟨A2,n2,c2,h2,hr.up ((bP _ _).alloc (bM _) _),hlo,by omega⟩;have hb2:=hb.alloc hz (aI #[aG aF,O Y 0,aL A2 n2 c2] 566);clear hown hr h2 hlo hl;go_wp2;go_ret;exact⟨w2.heap.size,D,hE,hz,by simp,hb2⟩
abbrev cK:=@underlying69
abbrev dR:=@ByteArray.toList_eq
abbrev eH:=@ByteArray.size_extract
abbrev kO:=@Option.isSome_some
abbrev lT:=@Option.getD_some
abbrev pP:=@List.head?_eq_getElem?
theorem IU{c:uX}(h:uR c):1≤c.most∧(10 ^(c.most+c.frac):Nat)≤100000000000000:=
 ⟨bU h.w1 h.w2,bU (fJ (by omega) (show c.most+c.frac≤14 by have:=h.m;have:=h.f;omega)) (by decide)⟩
theorem BN(c:uX)(h:uR c)(w:aS):
  aU bH 383 #[aM (L6 c).toArray] w fun e w'=>e=aJ (aG aF)∧aV w.heap.size w w':=by
 obtain⟨W,M,F,L,H⟩:=c;obtain⟨w1,w2,m,f,lh,lo,hi⟩:=h;simp only at w1 w2 m f lh lo hi;show aU _ _ #[aM #[O Y (W:Int),O Y (M:Int),O Y (F:Int),O Y L,O Y H]] _ _;have hb:=(bP w.heap.size w).alloc (bM _) (aI #[O Y (W:Int),O Y (M:Int),O Y (F:Int),O Y L,O Y H] 527);have hg:=bS w (aI #[O Y (W:Int),O Y (M:Int),O Y (F:Int),O Y L,O Y H] 527);obtain⟨P,hP⟩: ∃P,P=10 ^(M+F):=⟨_,D⟩;have hPb:P≤100000000000000:=by rw[hP];exact bU (fJ (by omega) (show M+F≤14 by omega)) (by decide)
 rw[←hP] at lo hi;have DC: ∀w,aU bH 390 #[O Y ((M:Int)+(F:Int))] w fun e w'=>e=aJ (O Y (P:Int))∧w=w':=fun w=>by rw[show(M:Int)+(F:Int)=((M+F:Nat):Int) by omega,hP];exact Qk (M+F) w (by omega)
 have HT:=bK DC;have i1: ¬(W:Int)<1:=by omega
 have i2: ¬(M:Int)<(W:Int):=by omega
 have i3: ¬(12:Int)<(M:Int):=by omega
 have i4: ¬(F:Int)<0:=by omega
 have i5: ¬(6:Int)<(F:Int):=by omega
 have i6: ¬H<L:=by omega
 have hPi:(P:Int)≤100000000000000:=by omega
 have i7: -(P:Int)<L:=by omega
 have i8:H<(P:Int):=by omega
 have i9:(M:Int)≤12:=by omega
 have i10:(F:Int)≤6:=by omega
 have i11:0≤(P:Int):=by omega
 clear hP DC lo hi lh w1 w2 m f hPb;go_enter func383,ntmps383;have hT:=HT.out (w.alloc (aI #[O Y (W:Int),O Y (M:Int),O Y (F:Int),O Y L,O Y H] 527));go_wp2_with fail;go_fit hT;rintro e v' ⟨rfl,rfl⟩;go_wp2;go_ret;exact⟨D,hb⟩
theorem P9(n lo hi:Int)(w:aS):
  aU bH 385 #[aM #[aG aF,O Y n],O Y lo,O Y hi] w fun e w'=>e=aJ (aG (decide (lo≤n∧n≤hi)))∧aV w.heap.size w w':=by
 have hb:=(bP w.heap.size w).alloc (bM _) (aI #[aG aF,O Y n] 69);by_cases h1:lo≤n
 ·by_cases h2:n≤hi
  ·rw[dU (show lo≤n∧n≤hi from⟨h1,h2⟩)];go_enter func385,ntmps385;go_wp2;go_ret;exact⟨D,hb⟩
  ·rw[dN (show¬(lo≤n∧n≤hi) from fun h=>h2 h.2)];go_enter func385,ntmps385;go_wp2;go_ret;exact⟨D,hb⟩
 ·rw[dN (show¬(lo≤n∧n≤hi) from fun h=>h1 h.1)];go_enter func385,ntmps385;go_wp2;go_ret;exact⟨D,hb⟩
def Xq(w:aS)(q:Jr × Nat)(e:aX)(w':aS):Prop:=e=aJ (aN #[aM #[aG q.1.is,O Y q.1.n],O Y (q.2:Int)])∧aV w.heap.size w w'
theorem vT{w:aS}{g e:Nat}{a b:aT}(h:w.heap[g]?=aE (aI #[a,b] e))(x y:aT):
  ((w.setCell ⟨g,0,J⟩ x).setCell ⟨g,1,J⟩ y).heap[g]?=aE (aI #[x,y] e)∧Aw (fun k=>k=g) w ((w.setCell ⟨g,0,J⟩ x).setCell ⟨g,1,J⟩ y):=
 ⟨cN (i:=1) (cN (i:=0) h x) y,((cY (fun k=>k=g) w).set (p:=⟨g,0,J⟩) x D).set (p:=⟨g,1,J⟩) y D⟩
theorem B9{s:List UInt8}{least most frac n:Nat}(h:mO s least most frac=aE n):n<10 ^(most+frac):=by
 unfold mO at h;have h1:=Nv (most+1) 0 0 s (by decide);split at h
 ·cases h
 ·rename_i hno;have hm:(vV (most+1) 0 s).1≤most:=by omega
  have h2:(vV (most+1) 0 s).2.1<10 ^ most:=cI h1 (fJ (by omega) (by omega));split at h
  ·injection h with h;rw[←h,Nat.pow_add];exact Nat.mul_lt_mul_of_pos_right h2 (Nat.pow_pos (by omega))
  ·split at h
   ·cases h
   ·split at h
    ·cases h
    ·rename_i c t _ _ hno2;injection h with h;have h3:=Nv (frac+1) (vV (most+1) 0 s).2.1 most t h2;have hk:(vV (frac+1) (vV (most+1) 0 s).2.1 t).1≤frac:=by omega
     rw[←h];have h4:=Nat.mul_lt_mul_of_pos_right (k:=10 ^(frac-(vV (frac+1) (vV (most+1) 0 s).2.1 t).1)) h3 (Nat.pow_pos (by omega));rw[←Nat.pow_add] at h4;rw[show most+frac=most+(vV (frac+1) (vV (most+1) 0 s).2.1 t).1+(frac-(vV (frac+1) (vV (most+1) 0 s).2.1 t).1) by omega];exact h4
theorem Zp(s:ByteArray)(c:uX)(h:uR c)(hz:s.size≤1000000)(w:aS):
  aU bH 372 #[aH s,aM (L6 c).toArray] w (Xq w (takeN s c)):=by
 have hR:=fun w=>BN c h w;have hQ: ∀t:ByteArray,t.size≤1000000→∀w,aU bH 384 #[aH t,O Y 1,O Y (c.most:Int),O Y (c.frac:Int)] w (Yl w (mO (sb t) 1 c.most c.frac)):=fun t ht w=>E9 t 1 c.most c.frac w (by omega) h.m h.f ht;have wC:=(IU h).2;obtain⟨W,M,F,L,H⟩:=c;simp only at hQ wC;show aU _ _ #[aH s,aM #[O Y (W:Int),O Y (M:Int),O Y (F:Int),O Y L,O Y H]] _ _;change∀w,aU _ _ #[aM #[O Y (W:Int),O Y (M:Int),O Y (F:Int),O Y L,O Y H]] _ _ at hR;obtain⟨hg,hr,iJ,hb⟩:=yZ w (aI #[O Y (W:Int),O Y (M:Int),O Y (F:Int),O Y L,O Y H] 527) (aI #[aG aD,O Y 0] 69);have Hg:=bK hg;have Hr:=bK hr;have dw:=hR ((w.alloc (aI #[O Y (W:Int),O Y (M:Int),O Y (F:Int),O Y L,O Y H] 527)).alloc (aI #[aG aD,O Y 0] 69));have HQ:=bK hQ;have HB:=bK wC;clear iJ hR hg hr hQ wC h;go_enter func372,ntmps372;go_wp2_with fail;go_fit dw;rintro e v ⟨rfl,nB⟩;have hg:=bV Hg.out nB (by simp only[cL];omega);have hr:=bV Hr.out nB (by simp only[cL];omega);replace hb:=eI hb nB;clear Hg Hr nB dw;have k1:=bL (i:=1) (v:=O Y (M:Int)) hg D;have k2:=bL (i:=2) (v:=O Y (F:Int)) hg D;have r0:=bL (i:=0) (v:=aG aD) hr D;have r1:=bL (i:=1) (v:=O Y 0) hr D;have q0:=bZ (i:=0) hr;have q1:=bZ (i:=1) hr;by_cases h0:s.size=0
 ·have hT:Hid (takeN s ⟨W,M,F,L,H⟩=(Dt,0)):=bK (by unfold takeN;rw[bY h0]);have e0:s.toList= []:=by rw[dR];exact(lQ s).2 h0
  go_wp2;obtain⟨h2,ha2⟩:=vT hr (aG aD) (O Y 0);have hb9:=cJ hb ha2 (fun k hk=>by omega);generalize((v.setCell ⟨w.heap.size+1,0,J⟩ (aG aD)).setCell ⟨w.heap.size+1,1,J⟩ (O Y 0))=v9 at*;exact bR (cD D _ _ (w.heap.size+1) _ _ _ _ D h2 cK D (by kernel_rfl)) D ⟨by rw[hT.out];rfl,hb9⟩
 have e0:s.toList.isEmpty=aD:=by rw[dR,List.isEmpty_eq_false_iff];exact fun e=>h0 ((lQ s).1 e)
 have fF:0<s.size:=by omega
 have aH1:(0:Int)<(s.size:Int):=by omega
 have G5:(sb s).head?=aE s[0]:=by rw[pP];exact yQ s 0 fF
 have H0:=bK h0;clear h0;by_cases hm:s[0]=45
 ·have hu:FR s=s.extract 1 s.size:=by unfold FR;rw[bY (by unfold BU;rw[G5,hm];rfl)]
  have qa:Uq s= -1:=by unfold Uq;rw[bY (by unfold BU;rw[G5,hm];rfl)]
  have im:(s[0].toNat:Int)=45:=by rw[hm];rfl
  have wD:(s.extract 1 s.size).size≤1000000:=by rw[eH];omega
  have hT:takeN s ⟨W,M,F,L,H⟩=match mO (sb (s.extract 1 s.size)) 1 M F with
    |none=>(Dt,3)
    |some n=>if L≤ -(n:Int)∧ -(n:Int)≤H then(⟨aF,-(n:Int)⟩,0) else(Dt,5):=by
   unfold takeN;rw[bX H0.out,hu,qa];cases mO (sb (s.extract 1 s.size)) 1 M F
   ·rfl
   ·simp only[Int.neg_one_mul]
  have HT:=bK hT;have hQ0:=bK (HQ.out (s.extract 1 s.size) wD);clear hT hu qa G5 hm wD;go_wp2_with fail;go_quiet (fail);go_wp2_with fail;go_fit(hQ0.out _);rintro e v2 ⟨rfl,hb2⟩;replace hb2:aV v.heap.size v v2:=by exact⟨hb2.os,hb2.tape,hb2.output,hb2.size,hb2.block⟩
  have hg2:=bV hg hb2 (bT hg);have hr2:=bV hr hb2 (bT hr);replace hb2:=eI hb hb2;clear hg hr hb k1 k2 r0 r1 q0 q1 hQ0;have k3:=bL (i:=3) (v:=O Y L) hg2 D;have k4:=bL (i:=4) (v:=O Y H) hg2 D;have r0:=bL (i:=0) (v:=aG aD) hr2 D;have r1:=bL (i:=1) (v:=O Y 0) hr2 D;have q0:=bZ (i:=0) hr2;have q1:=bZ (i:=1) hr2;obtain⟨o,ho⟩: ∃o,o=mO (sb (s.extract 1 s.size)) 1 M F:=⟨_,D⟩;have HO:=bK ho;rw[←ho] at HT ⊢;unfold PK
  cases o with
  |none=>
   clear ho;go_wp2;obtain⟨h2,ha2⟩:=vT hr2 (aG aD) (O Y 0);have hb9:=cJ hb2 ha2 (fun k hk=>by omega);generalize((v2.setCell ⟨w.heap.size+1,0,J⟩ (aG aD)).setCell ⟨w.heap.size+1,1,J⟩ (O Y 0))=v9 at*;exact bR (cD D _ _ (w.heap.size+1) _ _ _ _ D h2 cK D (by kernel_rfl)) D ⟨by rw[HT.out];rfl,hb9⟩
  |some n=>
   have hn:=B9 ho.symm;have aAn:(n:Int)≤100000000000000:=by have:=HB.out;omega
   clear ho hn;simp only[lT,kO];have l1:=bT hg2;have l2:=bT hr2;have hF:=P9 (-(n:Int)) L H (v2.alloc (aI #[aG aF,O Y (-(n:Int))] 69));have hx:=bS v2 (aI #[aG aF,O Y (-(n:Int))] 69);have hy:=(heap_alloc_old v2 (aI #[aG aF,O Y (-(n:Int))] 69) (h:=l2)).trans hr2;have hb3:=hb2.alloc hb2.size (aI #[aG aF,O Y (-(n:Int))] 69);have HF:=bK hF;have HX:=bK hx;have HY:=bK hy;clear hF hx hy;go_wp2_with fail;go_fit HF.out;rintro e v3 ⟨rfl,hb4⟩;have hx:=bV HX.out hb4 (by simp only[cL];omega);have hy:=bV HY.out hb4 (by simp only[cL];omega);replace hb4:=eI hb3 hb4;clear HF HX HY hb3 k3 k4 r0 r1 q0 q1 hg2 hr2 hb2;have r0:=bL (i:=0) (v:=aG aD) hy D;have r1:=bL (i:=1) (v:=O Y 0) hy D;have q0:=bZ (i:=0) hy;have q1:=bZ (i:=1) hy;have x0:=bL (i:=0) (v:=aG aF) hx D;have x1:=bL (i:=1) (v:=O Y (-(n:Int))) hx D;by_cases DF:L≤ -(n:Int)∧ -(n:Int)≤H
   ·have hd:decide (L≤ -(n:Int)∧ -(n:Int)≤H)=aF:=dU DF;have HT2:=bK (HT.out.trans (bY DF));rw[hd];clear hd DF;go_wp2;obtain⟨h2,ha2⟩:=vT hy (aG aF) (O Y (-(n:Int)));have hb9:=cJ hb4 ha2 (fun k hk=>by omega);generalize((v3.setCell ⟨w.heap.size+1,0,J⟩ (aG aF)).setCell ⟨w.heap.size+1,1,J⟩ (O Y (-(n:Int))))=v9 at*;exact bR (cD D _ _ (w.heap.size+1) _ _ _ _ D h2 cK D (by kernel_rfl)) D ⟨by rw[HT2.out];rfl,hb9⟩
   ·have hd:decide (L≤ -(n:Int)∧ -(n:Int)≤H)=aD:=dN DF;have HT2:=bK (HT.out.trans (bX DF));rw[hd];clear hd DF;go_wp2;obtain⟨h2,ha2⟩:=vT hy (aG aD) (O Y 0);have hb9:=cJ hb4 ha2 (fun k hk=>by omega);generalize((v3.setCell ⟨w.heap.size+1,0,J⟩ (aG aD)).setCell ⟨w.heap.size+1,1,J⟩ (O Y 0))=v9 at*;exact bR (cD D _ _ (w.heap.size+1) _ _ _ _ D h2 cK D (by kernel_rfl)) D ⟨by rw[HT2.out];rfl,hb9⟩
 ·have hf:BU s=aD:=by
   unfold BU;rw[G5];cases e:(aE s[0]==aE (45:UInt8))
   ·rfl
   ·exact absurd (by simpa using e) hm
  have hu:FR s=s:=by unfold FR;rw[hf];rfl
  have qa:Uq s=1:=by unfold Uq;rw[hf];rfl
  have im: ¬(s[0].toNat:Int)=45:=by intro e;exact hm (UInt8.toNat_inj.1 (by rw[show(45:UInt8).toNat=45 from D];omega))
  have wD:=hz
  have hT:takeN s ⟨W,M,F,L,H⟩=match mO (sb s) 1 M F with
    |none=>(Dt,3)
    |some n=>if L≤(n:Int)∧(n:Int)≤H then(⟨aF,(n:Int)⟩,0) else(Dt,5):=by
   unfold takeN;rw[bX H0.out,hu,qa];cases mO (sb s) 1 M F
   ·rfl
   ·simp only[Int.one_mul]
  have HT:=bK hT;have hQ0:=bK (HQ.out s wD);clear hT hu qa G5 hm wD hf;go_wp2_with fail;go_fit(hQ0.out _);rintro e v2 ⟨rfl,hb2⟩;have hg2:=bV hg hb2 (bT hg);have hr2:=bV hr hb2 (bT hr);replace hb2:=eI hb hb2;clear hg hr hb k1 k2 r0 r1 q0 q1 hQ0;have k3:=bL (i:=3) (v:=O Y L) hg2 D;have k4:=bL (i:=4) (v:=O Y H) hg2 D;have r0:=bL (i:=0) (v:=aG aD) hr2 D;have r1:=bL (i:=1) (v:=O Y 0) hr2 D;have q0:=bZ (i:=0) hr2;have q1:=bZ (i:=1) hr2;obtain⟨o,ho⟩: ∃o,o=mO (sb s) 1 M F:=⟨_,D⟩;have HO:=bK ho;rw[←ho] at HT ⊢;unfold PK
  cases o with
  |none=>
   clear ho;go_wp2;obtain⟨h2,ha2⟩:=vT hr2 (aG aD) (O Y 0);have hb9:=cJ hb2 ha2 (fun k hk=>by omega);generalize((v2.setCell ⟨w.heap.size+1,0,J⟩ (aG aD)).setCell ⟨w.heap.size+1,1,J⟩ (O Y 0))=v9 at*;exact bR (cD D _ _ (w.heap.size+1) _ _ _ _ D h2 cK D (by kernel_rfl)) D ⟨by rw[HT.out];rfl,hb9⟩
  |some n=>
   have hn:=B9 ho.symm;have aAn:(n:Int)≤100000000000000:=by have:=HB.out;omega
   clear ho hn;simp only[lT,kO];have l1:=bT hg2;have l2:=bT hr2;have hF:=P9 ((n:Int)) L H (v2.alloc (aI #[aG aF,O Y ((n:Int))] 69));have hx:=bS v2 (aI #[aG aF,O Y ((n:Int))] 69);have hy:=(heap_alloc_old v2 (aI #[aG aF,O Y ((n:Int))] 69) (h:=l2)).trans hr2;have hb3:=hb2.alloc hb2.size (aI #[aG aF,O Y ((n:Int))] 69);have HF:=bK hF;have HX:=bK hx;have HY:=bK hy;clear hF hx hy;go_wp2_with fail;go_fit HF.out;rintro e v3 ⟨rfl,hb4⟩;have hx:=bV HX.out hb4 (by simp only[cL];omega);have hy:=bV HY.out hb4 (by simp only[cL];omega);replace hb4:=eI hb3 hb4;clear HF HX HY hb3 k3 k4 r0 r1 q0 q1 hg2 hr2 hb2;have r0:=bL (i:=0) (v:=aG aD) hy D;have r1:=bL (i:=1) (v:=O Y 0) hy D;have q0:=bZ (i:=0) hy;have q1:=bZ (i:=1) hy;have x0:=bL (i:=0) (v:=aG aF) hx D;have x1:=bL (i:=1) (v:=O Y ((n:Int))) hx D;by_cases DF:L≤(n:Int)∧(n:Int)≤H
   ·have hd:decide (L≤(n:Int)∧(n:Int)≤H)=aF:=dU DF;have HT2:=bK (HT.out.trans (bY DF));rw[hd];clear hd DF;go_wp2;obtain⟨h2,ha2⟩:=vT hy (aG aF) (O Y ((n:Int)));have hb9:=cJ hb4 ha2 (fun k hk=>by omega);generalize((v3.setCell ⟨w.heap.size+1,0,J⟩ (aG aF)).setCell ⟨w.heap.size+1,1,J⟩ (O Y ((n:Int))))=v9 at*;exact bR (cD D _ _ (w.heap.size+1) _ _ _ _ D h2 cK D (by kernel_rfl)) D ⟨by rw[HT2.out];rfl,hb9⟩
   ·have hd:decide (L≤(n:Int)∧(n:Int)≤H)=aD:=dN DF;have HT2:=bK (HT.out.trans (bX DF));rw[hd];clear hd DF;go_wp2;obtain⟨h2,ha2⟩:=vT hy (aG aD) (O Y 0);have hb9:=cJ hb4 ha2 (fun k hk=>by omega);generalize((v3.setCell ⟨w.heap.size+1,0,J⟩ (aG aD)).setCell ⟨w.heap.size+1,1,J⟩ (O Y 0))=v9 at*;exact bR (cD D _ _ (w.heap.size+1) _ _ _ _ D h2 cK D (by kernel_rfl)) D ⟨by rw[HT2.out];rfl,hb9⟩
abbrev sI:=@ntmps373
abbrev uC:=@func373
theorem Ms(Ad:Bool)(w:aS):aU bH 191 #[aG Ad] w fun e w'=>e=aJ (aN #[O Y (ov Ad:Int),O Y (r8 Ad:Int),aH ⟨#[ni Ad,aq Ad]⟩])∧w=w':=by
 cases Ad
 all_goals go_enter func191,ntmps191;go_wp2;go_ret3;exact⟨D,D⟩
theorem tl_eq{s:ByteArray}{l:List UInt8} :s.toList=l↔sb s=l:=by rw[dR]
theorem lX{s:ByteArray}{l:List UInt8}(h: ¬sb s=l):(s.toList==l)=aD:=by
 rw[dR];cases e:(s.data.toList==l)
 ·rfl
 ·exact absurd (by simpa using e) h
theorem pZ{s:ByteArray}(h: ¬s.size=0):s.toList.isEmpty=aD:=by
 rw[dR,List.isEmpty_eq_false_iff];exact fun e=>h ((lQ s).1 e)
theorem Wu(s side:ByteArray)(hz:s.size≤1000000)(w:aS):
  aU bH 373 #[aH s,aH side,aG aF] w (Xq w (yI s side aF)):=by
 have hb:=(bP w.heap.size w).alloc (bM _) (aI #[aG aD,O Y 0] 69);have hr:=bS w (aI #[aG aD,O Y 0] 69);have hK:=Ms aF (w.alloc (aI #[aG aD,O Y 0] 69));have hP:=E9 s (r8 aF+2) (r8 aF+2) 5 (w.alloc (aI #[aG aD,O Y 0] 69)) (by decide) (by decide) (by decide) hz;have fF:=fun n=>B9 (s:=sb s) (least:=r8 aF+2) (most:=r8 aF+2) (frac:=5) (n:=n)
 have hT:yI s side aF=if s.size=0∧side.size=0 then(Dt,0) else
   match mO (sb s) (r8 aF+2) (r8 aF+2) 5 with
   |none=>(Dt,3)
   |some n=>
    if sb side≠ [78]∧sb side≠ [83] then(Dt,3) else
    if 6000000≤n % 10000000∨90*6000000<n/10000000*6000000+n % 10000000 then(Dt,5) else
    (⟨aF,if sb side= [83] then-((n/10000000*6000000+n % 10000000:Nat):Int) else((n/10000000*6000000+n % 10000000:Nat):Int)⟩,0):=D
 have Aq: ∀w,(Instr.slice 9 (aH ⟨#[78,83]⟩) J (aE (O Y 1)) J).run bH w= .ok (aH ⟨#[78]⟩) w:=fun _=>by kernel_rfl
 have Tx: ∀w,(Instr.slice 9 (aH ⟨#[78,83]⟩) (aE (O Y 1)) J J).run bH w= .ok (aH ⟨#[83]⟩) w:=fun _=>by kernel_rfl
 have HR:=bK hr;have HB:=bK hb;obtain⟨o,ho⟩: ∃o,o=mO (sb s) (r8 aF+2) (r8 aF+2) 5:=⟨_,D⟩;rw[←ho] at hP fF hT;have HT:=bK hT;have HL:=bK fF;have r0:=bL (i:=0) (v:=aG aD) hr D;clear hr hb ho hT fF r0;by_cases h0:s.size=0∧side.size=0
 ·have hT:=bK (HT.out.trans (bY h0));have e0:s.toList= []:=by rw[dR];exact(lQ s).2 h0.1
  have e1:side.toList= []:=by rw[dR];exact(lQ side).2 h0.2
  clear hK hP h0;go_enter uC,sI;go_wp2;exact bR (cD D _ _ w.heap.size _ _ _ _ D HR.out cK D (by kernel_rfl)) D ⟨by rw[hT.out];rfl,HB.out⟩
 have HT1:=bK (HT.out.trans (bX h0));have UE:aU bH 191 #[aG aF] (w.alloc (aI #[aG aD,O Y 0] 69)) fun e w'=>e=aJ (aN #[O Y 90,O Y 2,aH ⟨#[78,83]⟩])∧(w.alloc (aI #[aG aD,O Y 0] 69))=w':=hK;have UF:aU bH 384 #[aH s,O Y 4,O Y 4,O Y 5] (w.alloc (aI #[aG aD,O Y 0] 69)) (Yl (w.alloc (aI #[aG aD,O Y 0] 69)) o):=hP;clear hK hP HT;by_cases h1:s.size=0
 ·have e0:s.toList= []:=by rw[dR];exact(lQ s).2 h1
  have e1:side.toList.isEmpty=aD:=pZ (fun h=>h0 ⟨h1,h⟩);clear h0 h1;go_enter uC,sI;go_wp2_with fail;go_fit UE;rintro e w1 ⟨rfl,rfl⟩;go_wp2_with fail;go_fit UF;rintro e v ⟨rfl,nB⟩;have hr:=bV HR.out nB (by simp only[cL];omega);have hb:=eI HB.out nB;clear HR HB UF UE nB;have r0:=bL (i:=0) (v:=aG aD) hr D;have r1:=bL (i:=1) (v:=O Y 0) hr D;have q0:=bZ (i:=0) hr;have q1:=bZ (i:=1) hr;unfold PK
  cases o with
  |none=>
   go_wp2;obtain⟨h2,ha2⟩:=vT hr (aG aD) (O Y 0);have hb9:=cJ hb ha2 (fun k hk=>by omega);generalize((v.setCell ⟨w.heap.size,0,J⟩ (aG aD)).setCell ⟨w.heap.size,1,J⟩ (O Y 0))=v9 at*;exact bR (cD D _ _ (w.heap.size) _ _ _ _ D h2 cK D (by kernel_rfl)) D ⟨by rw[HT1.out];rfl,hb9⟩
  |some n=>
   have hn:=HL.out n D;have tM:n<10000000000:=cI hn (by decide);obtain⟨d,hd⟩: ∃d,d=n/10000000:=⟨_,D⟩;obtain⟨r,hrr⟩: ∃r,r=n % 10000000:=⟨_,D⟩
   have HT2:Hid (yI s side aF=if sb side≠ [78]∧sb side≠ [83] then(Dt,3) else
    if 6000000≤r∨90*6000000<d*6000000+r then(Dt,5) else
    (⟨aF,if sb side= [83] then-((d*6000000+r:Nat):Int) else((d*6000000+r:Nat):Int)⟩,0)):=bK (by rw[hd,hrr];exact HT1.out)
   have d1:(n:Int)/10000000=(d:Int):=by omega
   have r1':(n:Int)% 10000000=(r:Int):=by omega
   have DG:(d:Int)≤1000:=by omega
   have Ce:(r:Int)≤9999999:=by omega
   have hni:(n:Int)≤9999999999:=by omega
   clear hd hrr hn tM HL HT1;simp only[lT,kO];by_cases g1:sb side= [78]
   ·have t1:side.toList= [78]:=tl_eq.2 g1;have HT3:=bK (HT2.out.trans (bX (fun h=>h.1 g1)));have nq:sb side≠ [83]:=by rw[g1];decide
    have tq:(side.toList== [83])=aD:=lX nq;have HN:=bK nq;clear g1 HT2 nq;by_cases k1:6000000≤r
    ·have Xa:(6000000:Int)≤(r:Int):=by omega
     have HT4:=bK (HT3.out.trans (bY (.inl k1)));clear k1 HT3;go_wp2;obtain⟨h2,ha2⟩:=vT hr (aG aD) (O Y 0);have hb9:=cJ hb ha2 (fun k hk=>by omega);generalize((v.setCell ⟨w.heap.size,0,J⟩ (aG aD)).setCell ⟨w.heap.size,1,J⟩ (O Y 0))=v9 at*;exact bR (cD D _ _ (w.heap.size) _ _ _ _ D h2 cK D (by kernel_rfl)) D ⟨by rw[HT4.out];rfl,hb9⟩
    have Xa: ¬(6000000:Int)≤(r:Int):=by omega
    by_cases k2:90*6000000<d*6000000+r
    ·have Ti:(540000000:Int)<(d:Int)*6000000+(r:Int):=by omega
     have HT4:=bK (HT3.out.trans (bY (.inr k2)));clear k1 k2 HT3;go_wp2;obtain⟨h2,ha2⟩:=vT hr (aG aD) (O Y 0);have hb9:=cJ hb ha2 (fun k hk=>by omega);generalize((v.setCell ⟨w.heap.size,0,J⟩ (aG aD)).setCell ⟨w.heap.size,1,J⟩ (O Y 0))=v9 at*;exact bR (cD D _ _ (w.heap.size) _ _ _ _ D h2 cK D (by kernel_rfl)) D ⟨by rw[HT4.out];rfl,hb9⟩
    have Ti: ¬(540000000:Int)<(d:Int)*6000000+(r:Int):=by omega
    have HT4:=bK (HT3.out.trans (bX (fun h=>by rcases h with h|h;exact k1 h;exact k2 h)));clear k1 k2 HT3;go_wp2;obtain⟨h2,ha2⟩:=vT hr (aG aF) (O Y ((d:Int)*6000000+(r:Int)));have hb9:=cJ hb ha2 (fun k hk=>by omega);generalize((v.setCell ⟨w.heap.size,0,J⟩ (aG aF)).setCell ⟨w.heap.size,1,J⟩ (O Y ((d:Int)*6000000+(r:Int))))=v9 at*;exact bR (cD D _ _ (w.heap.size) _ _ _ _ D h2 cK D (by kernel_rfl)) D ⟨by rw[HT4.out,bX HN.out];simp,hb9⟩
   ·have t1:(side.toList== [78])=aD:=lX g1;by_cases g2:sb side= [83]
    ·have t2:side.toList= [83]:=tl_eq.2 g2;have HT3:=bK (HT2.out.trans (bX (fun h=>h.2 g2)));have HN:=bK g2;clear g1 g2 HT2;by_cases k1:6000000≤r
     ·have Xa:(6000000:Int)≤(r:Int):=by omega
      have HT4:=bK (HT3.out.trans (bY (.inl k1)));clear k1 HT3;go_wp2;obtain⟨h2,ha2⟩:=vT hr (aG aD) (O Y 0);have hb9:=cJ hb ha2 (fun k hk=>by omega);generalize((v.setCell ⟨w.heap.size,0,J⟩ (aG aD)).setCell ⟨w.heap.size,1,J⟩ (O Y 0))=v9 at*;exact bR (cD D _ _ (w.heap.size) _ _ _ _ D h2 cK D (by kernel_rfl)) D ⟨by rw[HT4.out];rfl,hb9⟩
     have Xa: ¬(6000000:Int)≤(r:Int):=by omega
     by_cases k2:90*6000000<d*6000000+r
     ·have Ti:(540000000:Int)<(d:Int)*6000000+(r:Int):=by omega
      have HT4:=bK (HT3.out.trans (bY (.inr k2)));clear k1 k2 HT3;go_wp2;obtain⟨h2,ha2⟩:=vT hr (aG aD) (O Y 0);have hb9:=cJ hb ha2 (fun k hk=>by omega);generalize((v.setCell ⟨w.heap.size,0,J⟩ (aG aD)).setCell ⟨w.heap.size,1,J⟩ (O Y 0))=v9 at*;exact bR (cD D _ _ (w.heap.size) _ _ _ _ D h2 cK D (by kernel_rfl)) D ⟨by rw[HT4.out];rfl,hb9⟩
     have Ti: ¬(540000000:Int)<(d:Int)*6000000+(r:Int):=by omega
     have HT4:=bK (HT3.out.trans (bX (fun h=>by rcases h with h|h;exact k1 h;exact k2 h)));clear k1 k2 HT3;go_wp2;obtain⟨h2,ha2⟩:=vT hr (aG aF) (O Y (-((d:Int)*6000000+(r:Int))));have hb9:=cJ hb ha2 (fun k hk=>by omega);generalize((v.setCell ⟨w.heap.size,0,J⟩ (aG aF)).setCell ⟨w.heap.size,1,J⟩ (O Y (-((d:Int)*6000000+(r:Int)))))=v9 at*;exact bR (cD D _ _ (w.heap.size) _ _ _ _ D h2 cK D (by kernel_rfl)) D ⟨by rw[HT4.out,bY HN.out];simp,hb9⟩
    ·have t2:(side.toList== [83])=aD:=lX g2;have HT3:=bK (HT2.out.trans (bY ⟨g1,g2⟩));clear g1 g2 HT2;go_wp2;obtain⟨h2,ha2⟩:=vT hr (aG aD) (O Y 0);have hb9:=cJ hb ha2 (fun k hk=>by omega);generalize((v.setCell ⟨w.heap.size,0,J⟩ (aG aD)).setCell ⟨w.heap.size,1,J⟩ (O Y 0))=v9 at*;exact bR (cD D _ _ (w.heap.size) _ _ _ _ D h2 cK D (by kernel_rfl)) D ⟨by rw[HT3.out];rfl,hb9⟩
 ·have e0:s.toList.isEmpty=aD:=pZ h1;clear h0 h1;go_enter uC,sI;go_wp2_with fail;go_fit UE;rintro e w1 ⟨rfl,rfl⟩;go_wp2_with fail;go_fit UF;rintro e v ⟨rfl,nB⟩;have hr:=bV HR.out nB (by simp only[cL];omega);have hb:=eI HB.out nB;clear HR HB UF UE nB;have r0:=bL (i:=0) (v:=aG aD) hr D;have r1:=bL (i:=1) (v:=O Y 0) hr D;have q0:=bZ (i:=0) hr;have q1:=bZ (i:=1) hr;unfold PK
  cases o with
  |none=>
   go_wp2;obtain⟨h2,ha2⟩:=vT hr (aG aD) (O Y 0);have hb9:=cJ hb ha2 (fun k hk=>by omega);generalize((v.setCell ⟨w.heap.size,0,J⟩ (aG aD)).setCell ⟨w.heap.size,1,J⟩ (O Y 0))=v9 at*;exact bR (cD D _ _ (w.heap.size) _ _ _ _ D h2 cK D (by kernel_rfl)) D ⟨by rw[HT1.out];rfl,hb9⟩
  |some n=>
   have hn:=HL.out n D;have tM:n<10000000000:=cI hn (by decide);obtain⟨d,hd⟩: ∃d,d=n/10000000:=⟨_,D⟩;obtain⟨r,hrr⟩: ∃r,r=n % 10000000:=⟨_,D⟩
   have HT2:Hid (yI s side aF=if sb side≠ [78]∧sb side≠ [83] then(Dt,3) else
    if 6000000≤r∨90*6000000<d*6000000+r then(Dt,5) else
    (⟨aF,if sb side= [83] then-((d*6000000+r:Nat):Int) else((d*6000000+r:Nat):Int)⟩,0)):=bK (by rw[hd,hrr];exact HT1.out)
   have d1:(n:Int)/10000000=(d:Int):=by omega
   have r1':(n:Int)% 10000000=(r:Int):=by omega
   have DG:(d:Int)≤1000:=by omega
   have Ce:(r:Int)≤9999999:=by omega
   have hni:(n:Int)≤9999999999:=by omega
   clear hd hrr hn tM HL HT1;simp only[lT,kO];by_cases g1:sb side= [78]
   ·have t1:side.toList= [78]:=tl_eq.2 g1;have HT3:=bK (HT2.out.trans (bX (fun h=>h.1 g1)));have nq:sb side≠ [83]:=by rw[g1];decide
    have tq:(side.toList== [83])=aD:=lX nq;have HN:=bK nq;clear g1 HT2 nq;by_cases k1:6000000≤r
    ·have Xa:(6000000:Int)≤(r:Int):=by omega
     have HT4:=bK (HT3.out.trans (bY (.inl k1)));clear k1 HT3;go_wp2;obtain⟨h2,ha2⟩:=vT hr (aG aD) (O Y 0);have hb9:=cJ hb ha2 (fun k hk=>by omega);generalize((v.setCell ⟨w.heap.size,0,J⟩ (aG aD)).setCell ⟨w.heap.size,1,J⟩ (O Y 0))=v9 at*;exact bR (cD D _ _ (w.heap.size) _ _ _ _ D h2 cK D (by kernel_rfl)) D ⟨by rw[HT4.out];rfl,hb9⟩
    have Xa: ¬(6000000:Int)≤(r:Int):=by omega
    by_cases k2:90*6000000<d*6000000+r
    ·have Ti:(540000000:Int)<(d:Int)*6000000+(r:Int):=by omega
     have HT4:=bK (HT3.out.trans (bY (.inr k2)));clear k1 k2 HT3;go_wp2;obtain⟨h2,ha2⟩:=vT hr (aG aD) (O Y 0);have hb9:=cJ hb ha2 (fun k hk=>by omega);generalize((v.setCell ⟨w.heap.size,0,J⟩ (aG aD)).setCell ⟨w.heap.size,1,J⟩ (O Y 0))=v9 at*;exact bR (cD D _ _ (w.heap.size) _ _ _ _ D h2 cK D (by kernel_rfl)) D ⟨by rw[HT4.out];rfl,hb9⟩
    have Ti: ¬(540000000:Int)<(d:Int)*6000000+(r:Int):=by omega
    have HT4:=bK (HT3.out.trans (bX (fun h=>by rcases h with h|h;exact k1 h;exact k2 h)));clear k1 k2 HT3;go_wp2;obtain⟨h2,ha2⟩:=vT hr (aG aF) (O Y ((d:Int)*6000000+(r:Int)));have hb9:=cJ hb ha2 (fun k hk=>by omega);generalize((v.setCell ⟨w.heap.size,0,J⟩ (aG aF)).setCell ⟨w.heap.size,1,J⟩ (O Y ((d:Int)*6000000+(r:Int))))=v9 at*;exact bR (cD D _ _ (w.heap.size) _ _ _ _ D h2 cK D (by kernel_rfl)) D ⟨by rw[HT4.out,bX HN.out];simp,hb9⟩
   ·have t1:(side.toList== [78])=aD:=lX g1;by_cases g2:sb side= [83]
    ·have t2:side.toList= [83]:=tl_eq.2 g2;have HT3:=bK (HT2.out.trans (bX (fun h=>h.2 g2)));have HN:=bK g2;clear g1 g2 HT2;by_cases k1:6000000≤r
     ·have Xa:(6000000:Int)≤(r:Int):=by omega
      have HT4:=bK (HT3.out.trans (bY (.inl k1)));clear k1 HT3;go_wp2;obtain⟨h2,ha2⟩:=vT hr (aG aD) (O Y 0);have hb9:=cJ hb ha2 (fun k hk=>by omega);generalize((v.setCell ⟨w.heap.size,0,J⟩ (aG aD)).setCell ⟨w.heap.size,1,J⟩ (O Y 0))=v9 at*;exact bR (cD D _ _ (w.heap.size) _ _ _ _ D h2 cK D (by kernel_rfl)) D ⟨by rw[HT4.out];rfl,hb9⟩
     have Xa: ¬(6000000:Int)≤(r:Int):=by omega
     by_cases k2:90*6000000<d*6000000+r
     ·have Ti:(540000000:Int)<(d:Int)*6000000+(r:Int):=by omega
      have HT4:=bK (HT3.out.trans (bY (.inr k2)));clear k1 k2 HT3;go_wp2;obtain⟨h2,ha2⟩:=vT hr (aG aD) (O Y 0);have hb9:=cJ hb ha2 (fun k hk=>by omega);generalize((v.setCell ⟨w.heap.size,0,J⟩ (aG aD)).setCell ⟨w.heap.size,1,J⟩ (O Y 0))=v9 at*;exact bR (cD D _ _ (w.heap.size) _ _ _ _ D h2 cK D (by kernel_rfl)) D ⟨by rw[HT4.out];rfl,hb9⟩
     have Ti: ¬(540000000:Int)<(d:Int)*6000000+(r:Int):=by omega
     have HT4:=bK (HT3.out.trans (bX (fun h=>by rcases h with h|h;exact k1 h;exact k2 h)));clear k1 k2 HT3;go_wp2;obtain⟨h2,ha2⟩:=vT hr (aG aF) (O Y (-((d:Int)*6000000+(r:Int))));have hb9:=cJ hb ha2 (fun k hk=>by omega);generalize((v.setCell ⟨w.heap.size,0,J⟩ (aG aF)).setCell ⟨w.heap.size,1,J⟩ (O Y (-((d:Int)*6000000+(r:Int)))))=v9 at*;exact bR (cD D _ _ (w.heap.size) _ _ _ _ D h2 cK D (by kernel_rfl)) D ⟨by rw[HT4.out,bY HN.out];simp,hb9⟩
    ·have t2:(side.toList== [83])=aD:=lX g2;have HT3:=bK (HT2.out.trans (bY ⟨g1,g2⟩));clear g1 g2 HT2;go_wp2;obtain⟨h2,ha2⟩:=vT hr (aG aD) (O Y 0);have hb9:=cJ hb ha2 (fun k hk=>by omega);generalize((v.setCell ⟨w.heap.size,0,J⟩ (aG aD)).setCell ⟨w.heap.size,1,J⟩ (O Y 0))=v9 at*;exact bR (cD D _ _ (w.heap.size) _ _ _ _ D h2 cK D (by kernel_rfl)) D ⟨by rw[HT3.out];rfl,hb9⟩
theorem S4(s side:ByteArray)(hz:s.size≤1000000)(w:aS):
  aU bH 373 #[aH s,aH side,aG aD] w (Xq w (yI s side aD)):=by
 have hb:=(bP w.heap.size w).alloc (bM _) (aI #[aG aD,O Y 0] 69);have hr:=bS w (aI #[aG aD,O Y 0] 69);have hK:=Ms aD (w.alloc (aI #[aG aD,O Y 0] 69));have hP:=E9 s (r8 aD+2) (r8 aD+2) 5 (w.alloc (aI #[aG aD,O Y 0] 69)) (by decide) (by decide) (by decide) hz;have fF:=fun n=>B9 (s:=sb s) (least:=r8 aD+2) (most:=r8 aD+2) (frac:=5) (n:=n)
 have hT:yI s side aD=if s.size=0∧side.size=0 then(Dt,0) else
   match mO (sb s) (r8 aD+2) (r8 aD+2) 5 with
   |none=>(Dt,3)
   |some n=>
    if sb side≠ [69]∧sb side≠ [87] then(Dt,3) else
    if 6000000≤n % 10000000∨180*6000000<n/10000000*6000000+n % 10000000 then(Dt,5) else
    (⟨aF,if sb side= [87] then-((n/10000000*6000000+n % 10000000:Nat):Int) else((n/10000000*6000000+n % 10000000:Nat):Int)⟩,0):=D
 have Aq: ∀w,(Instr.slice 9 (aH ⟨#[69,87]⟩) J (aE (O Y 1)) J).run bH w= .ok (aH ⟨#[69]⟩) w:=fun _=>by kernel_rfl
 have Tx: ∀w,(Instr.slice 9 (aH ⟨#[69,87]⟩) (aE (O Y 1)) J J).run bH w= .ok (aH ⟨#[87]⟩) w:=fun _=>by kernel_rfl
 have HR:=bK hr;have HB:=bK hb;obtain⟨o,ho⟩: ∃o,o=mO (sb s) (r8 aD+2) (r8 aD+2) 5:=⟨_,D⟩;rw[←ho] at hP fF hT;have HT:=bK hT;have HL:=bK fF;have r0:=bL (i:=0) (v:=aG aD) hr D;clear hr hb ho hT fF r0;by_cases h0:s.size=0∧side.size=0
 ·have hT:=bK (HT.out.trans (bY h0));have e0:s.toList= []:=by rw[dR];exact(lQ s).2 h0.1
  have e1:side.toList= []:=by rw[dR];exact(lQ side).2 h0.2
  clear hK hP h0;go_enter uC,sI;go_wp2;exact bR (cD D _ _ w.heap.size _ _ _ _ D HR.out cK D (by kernel_rfl)) D ⟨by rw[hT.out];rfl,HB.out⟩
 have HT1:=bK (HT.out.trans (bX h0));have UE:aU bH 191 #[aG aD] (w.alloc (aI #[aG aD,O Y 0] 69)) fun e w'=>e=aJ (aN #[O Y 180,O Y 3,aH ⟨#[69,87]⟩])∧(w.alloc (aI #[aG aD,O Y 0] 69))=w':=hK;have UF:aU bH 384 #[aH s,O Y 5,O Y 5,O Y 5] (w.alloc (aI #[aG aD,O Y 0] 69)) (Yl (w.alloc (aI #[aG aD,O Y 0] 69)) o):=hP;clear hK hP HT;by_cases h1:s.size=0
 ·have e0:s.toList= []:=by rw[dR];exact(lQ s).2 h1
  have e1:side.toList.isEmpty=aD:=pZ (fun h=>h0 ⟨h1,h⟩);clear h0 h1;go_enter uC,sI;go_wp2_with fail;go_fit UE;rintro e w1 ⟨rfl,rfl⟩;go_wp2_with fail;go_fit UF;rintro e v ⟨rfl,nB⟩;have hr:=bV HR.out nB (by simp only[cL];omega);have hb:=eI HB.out nB;clear HR HB UF UE nB;have r0:=bL (i:=0) (v:=aG aD) hr D;have r1:=bL (i:=1) (v:=O Y 0) hr D;have q0:=bZ (i:=0) hr;have q1:=bZ (i:=1) hr;unfold PK
  cases o with
  |none=>
   go_wp2;obtain⟨h2,ha2⟩:=vT hr (aG aD) (O Y 0);have hb9:=cJ hb ha2 (fun k hk=>by omega);generalize((v.setCell ⟨w.heap.size,0,J⟩ (aG aD)).setCell ⟨w.heap.size,1,J⟩ (O Y 0))=v9 at*;exact bR (cD D _ _ (w.heap.size) _ _ _ _ D h2 cK D (by kernel_rfl)) D ⟨by rw[HT1.out];rfl,hb9⟩
  |some n=>
   have hn:=HL.out n D;have tM:n<10000000000:=cI hn (by decide);obtain⟨d,hd⟩: ∃d,d=n/10000000:=⟨_,D⟩;obtain⟨r,hrr⟩: ∃r,r=n % 10000000:=⟨_,D⟩
   have HT2:Hid (yI s side aD=if sb side≠ [69]∧sb side≠ [87] then(Dt,3) else
    if 6000000≤r∨180*6000000<d*6000000+r then(Dt,5) else
    (⟨aF,if sb side= [87] then-((d*6000000+r:Nat):Int) else((d*6000000+r:Nat):Int)⟩,0)):=bK (by rw[hd,hrr];exact HT1.out)
   have d1:(n:Int)/10000000=(d:Int):=by omega
   have r1':(n:Int)% 10000000=(r:Int):=by omega
   have DG:(d:Int)≤1000:=by omega
   have Ce:(r:Int)≤9999999:=by omega
   have hni:(n:Int)≤9999999999:=by omega
   clear hd hrr hn tM HL HT1;simp only[lT,kO];by_cases g1:sb side= [69]
   ·have t1:side.toList= [69]:=tl_eq.2 g1;have HT3:=bK (HT2.out.trans (bX (fun h=>h.1 g1)));have nq:sb side≠ [87]:=by rw[g1];decide
    have tq:(side.toList== [87])=aD:=lX nq;have HN:=bK nq;clear g1 HT2 nq;by_cases k1:6000000≤r
    ·have Xa:(6000000:Int)≤(r:Int):=by omega
     have HT4:=bK (HT3.out.trans (bY (.inl k1)));clear k1 HT3;go_wp2;obtain⟨h2,ha2⟩:=vT hr (aG aD) (O Y 0);have hb9:=cJ hb ha2 (fun k hk=>by omega);generalize((v.setCell ⟨w.heap.size,0,J⟩ (aG aD)).setCell ⟨w.heap.size,1,J⟩ (O Y 0))=v9 at*;exact bR (cD D _ _ (w.heap.size) _ _ _ _ D h2 cK D (by kernel_rfl)) D ⟨by rw[HT4.out];rfl,hb9⟩
    have Xa: ¬(6000000:Int)≤(r:Int):=by omega
    by_cases k2:180*6000000<d*6000000+r
    ·have Ti:(1080000000:Int)<(d:Int)*6000000+(r:Int):=by omega
     have HT4:=bK (HT3.out.trans (bY (.inr k2)));clear k1 k2 HT3;go_wp2;obtain⟨h2,ha2⟩:=vT hr (aG aD) (O Y 0);have hb9:=cJ hb ha2 (fun k hk=>by omega);generalize((v.setCell ⟨w.heap.size,0,J⟩ (aG aD)).setCell ⟨w.heap.size,1,J⟩ (O Y 0))=v9 at*;exact bR (cD D _ _ (w.heap.size) _ _ _ _ D h2 cK D (by kernel_rfl)) D ⟨by rw[HT4.out];rfl,hb9⟩
    have Ti: ¬(1080000000:Int)<(d:Int)*6000000+(r:Int):=by omega
    have HT4:=bK (HT3.out.trans (bX (fun h=>by rcases h with h|h;exact k1 h;exact k2 h)));clear k1 k2 HT3;go_wp2;obtain⟨h2,ha2⟩:=vT hr (aG aF) (O Y ((d:Int)*6000000+(r:Int)));have hb9:=cJ hb ha2 (fun k hk=>by omega);generalize((v.setCell ⟨w.heap.size,0,J⟩ (aG aF)).setCell ⟨w.heap.size,1,J⟩ (O Y ((d:Int)*6000000+(r:Int))))=v9 at*;exact bR (cD D _ _ (w.heap.size) _ _ _ _ D h2 cK D (by kernel_rfl)) D ⟨by rw[HT4.out,bX HN.out];simp,hb9⟩
   ·have t1:(side.toList== [69])=aD:=lX g1;by_cases g2:sb side= [87]
    ·have t2:side.toList= [87]:=tl_eq.2 g2;have HT3:=bK (HT2.out.trans (bX (fun h=>h.2 g2)));have HN:=bK g2;clear g1 g2 HT2;by_cases k1:6000000≤r
     ·have Xa:(6000000:Int)≤(r:Int):=by omega
      have HT4:=bK (HT3.out.trans (bY (.inl k1)));clear k1 HT3;go_wp2;obtain⟨h2,ha2⟩:=vT hr (aG aD) (O Y 0);have hb9:=cJ hb ha2 (fun k hk=>by omega);generalize((v.setCell ⟨w.heap.size,0,J⟩ (aG aD)).setCell ⟨w.heap.size,1,J⟩ (O Y 0))=v9 at*;exact bR (cD D _ _ (w.heap.size) _ _ _ _ D h2 cK D (by kernel_rfl)) D ⟨by rw[HT4.out];rfl,hb9⟩
     have Xa: ¬(6000000:Int)≤(r:Int):=by omega
     by_cases k2:180*6000000<d*6000000+r
     ·have Ti:(1080000000:Int)<(d:Int)*6000000+(r:Int):=by omega
      have HT4:=bK (HT3.out.trans (bY (.inr k2)));clear k1 k2 HT3;go_wp2;obtain⟨h2,ha2⟩:=vT hr (aG aD) (O Y 0);have hb9:=cJ hb ha2 (fun k hk=>by omega);generalize((v.setCell ⟨w.heap.size,0,J⟩ (aG aD)).setCell ⟨w.heap.size,1,J⟩ (O Y 0))=v9 at*;exact bR (cD D _ _ (w.heap.size) _ _ _ _ D h2 cK D (by kernel_rfl)) D ⟨by rw[HT4.out];rfl,hb9⟩
     have Ti: ¬(1080000000:Int)<(d:Int)*6000000+(r:Int):=by omega
     have HT4:=bK (HT3.out.trans (bX (fun h=>by rcases h with h|h;exact k1 h;exact k2 h)));clear k1 k2 HT3;go_wp2;obtain⟨h2,ha2⟩:=vT hr (aG aF) (O Y (-((d:Int)*6000000+(r:Int))));have hb9:=cJ hb ha2 (fun k hk=>by omega);generalize((v.setCell ⟨w.heap.size,0,J⟩ (aG aF)).setCell ⟨w.heap.size,1,J⟩ (O Y (-((d:Int)*6000000+(r:Int)))))=v9 at*;exact bR (cD D _ _ (w.heap.size) _ _ _ _ D h2 cK D (by kernel_rfl)) D ⟨by rw[HT4.out,bY HN.out];simp,hb9⟩
    ·have t2:(side.toList== [87])=aD:=lX g2;have HT3:=bK (HT2.out.trans (bY ⟨g1,g2⟩));clear g1 g2 HT2;go_wp2;obtain⟨h2,ha2⟩:=vT hr (aG aD) (O Y 0);have hb9:=cJ hb ha2 (fun k hk=>by omega);generalize((v.setCell ⟨w.heap.size,0,J⟩ (aG aD)).setCell ⟨w.heap.size,1,J⟩ (O Y 0))=v9 at*;exact bR (cD D _ _ (w.heap.size) _ _ _ _ D h2 cK D (by kernel_rfl)) D ⟨by rw[HT3.out];rfl,hb9⟩
 ·have e0:s.toList.isEmpty=aD:=pZ h1;clear h0 h1;go_enter uC,sI;go_wp2_with fail;go_fit UE;rintro e w1 ⟨rfl,rfl⟩;go_wp2_with fail;go_fit UF;rintro e v ⟨rfl,nB⟩;have hr:=bV HR.out nB (by simp only[cL];omega);have hb:=eI HB.out nB;clear HR HB UF UE nB;have r0:=bL (i:=0) (v:=aG aD) hr D;have r1:=bL (i:=1) (v:=O Y 0) hr D;have q0:=bZ (i:=0) hr;have q1:=bZ (i:=1) hr;unfold PK
  cases o with
  |none=>
   go_wp2;obtain⟨h2,ha2⟩:=vT hr (aG aD) (O Y 0);have hb9:=cJ hb ha2 (fun k hk=>by omega);generalize((v.setCell ⟨w.heap.size,0,J⟩ (aG aD)).setCell ⟨w.heap.size,1,J⟩ (O Y 0))=v9 at*;exact bR (cD D _ _ (w.heap.size) _ _ _ _ D h2 cK D (by kernel_rfl)) D ⟨by rw[HT1.out];rfl,hb9⟩
  |some n=>
   have hn:=HL.out n D;have tM:n<10000000000:=cI hn (by decide);obtain⟨d,hd⟩: ∃d,d=n/10000000:=⟨_,D⟩;obtain⟨r,hrr⟩: ∃r,r=n % 10000000:=⟨_,D⟩
   have HT2:Hid (yI s side aD=if sb side≠ [69]∧sb side≠ [87] then(Dt,3) else
    if 6000000≤r∨180*6000000<d*6000000+r then(Dt,5) else
    (⟨aF,if sb side= [87] then-((d*6000000+r:Nat):Int) else((d*6000000+r:Nat):Int)⟩,0)):=bK (by rw[hd,hrr];exact HT1.out)
   have d1:(n:Int)/10000000=(d:Int):=by omega
   have r1':(n:Int)% 10000000=(r:Int):=by omega
   have DG:(d:Int)≤1000:=by omega
   have Ce:(r:Int)≤9999999:=by omega
   have hni:(n:Int)≤9999999999:=by omega
   clear hd hrr hn tM HL HT1;simp only[lT,kO];by_cases g1:sb side= [69]
   ·have t1:side.toList= [69]:=tl_eq.2 g1;have HT3:=bK (HT2.out.trans (bX (fun h=>h.1 g1)));have nq:sb side≠ [87]:=by rw[g1];decide
    have tq:(side.toList== [87])=aD:=lX nq;have HN:=bK nq;clear g1 HT2 nq;by_cases k1:6000000≤r
    ·have Xa:(6000000:Int)≤(r:Int):=by omega
     have HT4:=bK (HT3.out.trans (bY (.inl k1)));clear k1 HT3;go_wp2;obtain⟨h2,ha2⟩:=vT hr (aG aD) (O Y 0);have hb9:=cJ hb ha2 (fun k hk=>by omega);generalize((v.setCell ⟨w.heap.size,0,J⟩ (aG aD)).setCell ⟨w.heap.size,1,J⟩ (O Y 0))=v9 at*;exact bR (cD D _ _ (w.heap.size) _ _ _ _ D h2 cK D (by kernel_rfl)) D ⟨by rw[HT4.out];rfl,hb9⟩
    have Xa: ¬(6000000:Int)≤(r:Int):=by omega
    by_cases k2:180*6000000<d*6000000+r
    ·have Ti:(1080000000:Int)<(d:Int)*6000000+(r:Int):=by omega
     have HT4:=bK (HT3.out.trans (bY (.inr k2)));clear k1 k2 HT3;go_wp2;obtain⟨h2,ha2⟩:=vT hr (aG aD) (O Y 0);have hb9:=cJ hb ha2 (fun k hk=>by omega);generalize((v.setCell ⟨w.heap.size,0,J⟩ (aG aD)).setCell ⟨w.heap.size,1,J⟩ (O Y 0))=v9 at*;exact bR (cD D _ _ (w.heap.size) _ _ _ _ D h2 cK D (by kernel_rfl)) D ⟨by rw[HT4.out];rfl,hb9⟩
    have Ti: ¬(1080000000:Int)<(d:Int)*6000000+(r:Int):=by omega
    have HT4:=bK (HT3.out.trans (bX (fun h=>by rcases h with h|h;exact k1 h;exact k2 h)));clear k1 k2 HT3;go_wp2;obtain⟨h2,ha2⟩:=vT hr (aG aF) (O Y ((d:Int)*6000000+(r:Int)));have hb9:=cJ hb ha2 (fun k hk=>by omega);generalize((v.setCell ⟨w.heap.size,0,J⟩ (aG aF)).setCell ⟨w.heap.size,1,J⟩ (O Y ((d:Int)*6000000+(r:Int))))=v9 at*;exact bR (cD D _ _ (w.heap.size) _ _ _ _ D h2 cK D (by kernel_rfl)) D ⟨by rw[HT4.out,bX HN.out];simp,hb9⟩
   ·have t1:(side.toList== [69])=aD:=lX g1;by_cases g2:sb side= [87]
    ·have t2:side.toList= [87]:=tl_eq.2 g2;have HT3:=bK (HT2.out.trans (bX (fun h=>h.2 g2)));have HN:=bK g2;clear g1 g2 HT2;by_cases k1:6000000≤r
     ·have Xa:(6000000:Int)≤(r:Int):=by omega
      have HT4:=bK (HT3.out.trans (bY (.inl k1)));clear k1 HT3;go_wp2;obtain⟨h2,ha2⟩:=vT hr (aG aD) (O Y 0);have hb9:=cJ hb ha2 (fun k hk=>by omega);generalize((v.setCell ⟨w.heap.size,0,J⟩ (aG aD)).setCell ⟨w.heap.size,1,J⟩ (O Y 0))=v9 at*;exact bR (cD D _ _ (w.heap.size) _ _ _ _ D h2 cK D (by kernel_rfl)) D ⟨by rw[HT4.out];rfl,hb9⟩
     have Xa: ¬(6000000:Int)≤(r:Int):=by omega
     by_cases k2:180*6000000<d*6000000+r
     ·have Ti:(1080000000:Int)<(d:Int)*6000000+(r:Int):=by omega
      have HT4:=bK (HT3.out.trans (bY (.inr k2)));clear k1 k2 HT3;go_wp2;obtain⟨h2,ha2⟩:=vT hr (aG aD) (O Y 0);have hb9:=cJ hb ha2 (fun k hk=>by omega);generalize((v.setCell ⟨w.heap.size,0,J⟩ (aG aD)).setCell ⟨w.heap.size,1,J⟩ (O Y 0))=v9 at*;exact bR (cD D _ _ (w.heap.size) _ _ _ _ D h2 cK D (by kernel_rfl)) D ⟨by rw[HT4.out];rfl,hb9⟩
     have Ti: ¬(1080000000:Int)<(d:Int)*6000000+(r:Int):=by omega
     have HT4:=bK (HT3.out.trans (bX (fun h=>by rcases h with h|h;exact k1 h;exact k2 h)));clear k1 k2 HT3;go_wp2;obtain⟨h2,ha2⟩:=vT hr (aG aF) (O Y (-((d:Int)*6000000+(r:Int))));have hb9:=cJ hb ha2 (fun k hk=>by omega);generalize((v.setCell ⟨w.heap.size,0,J⟩ (aG aF)).setCell ⟨w.heap.size,1,J⟩ (O Y (-((d:Int)*6000000+(r:Int)))))=v9 at*;exact bR (cD D _ _ (w.heap.size) _ _ _ _ D h2 cK D (by kernel_rfl)) D ⟨by rw[HT4.out,bY HN.out];simp,hb9⟩
    ·have t2:(side.toList== [87])=aD:=lX g2;have HT3:=bK (HT2.out.trans (bY ⟨g1,g2⟩));clear g1 g2 HT2;go_wp2;obtain⟨h2,ha2⟩:=vT hr (aG aD) (O Y 0);have hb9:=cJ hb ha2 (fun k hk=>by omega);generalize((v.setCell ⟨w.heap.size,0,J⟩ (aG aD)).setCell ⟨w.heap.size,1,J⟩ (O Y 0))=v9 at*;exact bR (cD D _ _ (w.heap.size) _ _ _ _ D h2 cK D (by kernel_rfl)) D ⟨by rw[HT3.out];rfl,hb9⟩
abbrev eQ:=@underlying527
abbrev fY:=@List.not_mem_nil
abbrev oY:=@or_false
theorem dK{P:aZ}{fn:Func}{p:Tmp}{ty:aY}(h:fn.results= #[.cell p ty])(tmps:Array aT)(w:aS)(g:Nat)(t:aY)(cs:Array aT)(fr:Nat × Nat)(d:TypeDesc)
  (hp:tmps.getD p undef=aK (aE ⟨g,0,J⟩)) (hg:w.heap[g]?=aE (aI cs t fr))
  (hu:P.underlying ty=aE d) (hd:(match d with| .struct _| .array _ _=>aF|_=>aD)=aF) (hi:(P.info? ty).map (·.size)=aE cs.size):
  (results fn tmps).run P w= .ok (.agg cs) w:=by
 have yC:tmps[p]?.getD undef=aK (aE ⟨g,0,J⟩):=by simpa using hp
 simp[results,h,yC,asAddr,mL w g t ty cs fr d hg hu hd hi]
theorem fC{w w':aS}(h:aV w.heap.size w w')(U:Nat→Prop):Aw U w w':=tO h fun k hk _=>hk
theorem EyB.below{w w':aS}{lo g:Nat}{st:kY}(h:EyB w lo g st)(hb:aV w.heap.size w w')(hlo:lo≤g):EyB w' lo g st:=h.keep (U:=fun _=>False) (fC hb _) (fun k hk=>hk.elim) hlo
def EyOk(st:kY):Prop:= ∀s∈st.2,s.size≤1000000
theorem EyOk.text{st:kY}(h:EyOk st):(jA st).1.size≤1000000∧EyOk (jA st).2:=by
 obtain⟨e,l⟩:=st
 cases l with
 |nil=>exact⟨fT _,fun s hs=>by cases hs⟩
 |cons s l=>exact⟨h s cP,fun t ht=>h t (dV _ ht)⟩
theorem EyOk.fail{st:kY}(h:EyOk st)(k:Nat):EyOk (tP st k):=h
theorem EyOk.num{st:kY}(h:EyOk st)(c:uX):EyOk (gT c st).2:=(h.text.2).fail _
theorem EyOk.ang{st:kY}(h:EyOk st)(Ad:Bool):EyOk (nS Ad st).2:=(h.text.2.text.2).fail _
theorem pT(c:uX)(hc:uR c)(lo g:Nat)(st:kY)(w:aS)(h:EyB w lo g st)(hlo:lo≤g)(hk:EyOk st):
  aU bH 318 #[aK (aE ⟨g,0,J⟩),aM (L6 c).toArray] w (e8 w lo g (aM #[aG (gT c st).1.is,O Y (gT c st).1.n]) (gT c st).2):=by
 have hT:=fun w=>Zp (jA st).1 c hc hk.text.1 w;have he:gT c st=((takeN (jA st).1 c).1,tP (jA st).2 (takeN (jA st).1 c).2):=D;rw[he];obtain⟨q,hq⟩: ∃q,q=takeN (jA st).1 c:=⟨_,D⟩;rw[←hq] at hT ⊢;obtain⟨⟨is,n⟩,k⟩:=q;simp only;obtain⟨W,M,F,L,H⟩:=c;change∀w,aU _ _ #[_,aM #[O Y (W:Int),O Y (M:Int),O Y (F:Int),O Y L,O Y H]] _ _ at hT;show aU _ _ #[_,aM #[O Y (W:Int),O Y (M:Int),O Y (F:Int),O Y L,O Y H]] _ _;have hX:=fun w h=>kA lo g st w h hlo;obtain⟨s,hs⟩: ∃s,s=(jA st).1:=⟨_,D⟩;obtain⟨s2,hs2⟩: ∃s2,s2=(jA st).2:=⟨_,D⟩;rw[←hs,←hs2] at hX;rw[←hs2];rw[←hs] at hT;have HT:=bK hT;have HX:=bK hX;obtain⟨hg,hr,iJ,hb⟩:=yZ w (aI #[O Y (W:Int),O Y (M:Int),O Y (F:Int),O Y L,O Y H] 527) (aI #[aG aD,O Y 0] 69);have hE:=h.below hb hlo;have yN:=h.lt;clear hT hX hq hs hs2 hk h hc he;have ha:Aw (fun j=>j=g) w ((w.alloc (aI #[O Y (W:Int),O Y (M:Int),O Y (F:Int),O Y L,O Y H] 527)).alloc (aI #[aG aD,O Y 0] 69)):=fC hb _;clear hb;go_enter func318,ntmps318;go_wp2_with fail;generalize((w.alloc (aI #[O Y (W:Int),O Y (M:Int),O Y (F:Int),O Y L,O Y H] 527)).alloc (aI #[aG aD,O Y 0] 69))=w1 at*;refine Ord.region_m [1,3,7] [[0,1,2,3,4,5,6,7,8,9],[0,1,7,2,3,4,5,6,8,9],[7,0,1,2,3,4,5,6,8,9]] (fun w'=>w'.heap[w.heap.size]?=aE (aI #[O Y (W:Int),O Y (M:Int),O Y (F:Int),O Y L,O Y H] 527)) aD [] (by kernel_rfl) (by kernel_rfl) hg ?_;replace hE:EyB w1.drew lo g st:=hE.keep ((cY (fun _=>False) w1).drew) (fun k hk=>hk.elim) hlo;replace hg:w1.drew.heap[w.heap.size]?=_:=hg;replace hr:w1.drew.heap[w.heap.size+1]?=_:=hr;replace ha:=ha.drew;have LY:w1.drew.heap.size=w.heap.size+2:=iJ;generalize w1.drew=v0 at*;have Hsz:=bK LY;clear iJ LY;have b8:w.heap.size+2≤v0.heap.size:=by have:=Hsz.out;omega
 intro L0 hL;simp only[fL,fY,oY] at hL;rcases hL with rfl|rfl|rfl
 ·simp only[Ord.lst,lI,lV,dO,eV,jJ];refine Ord.K ?_;refine Ord.X ?_;go_wp2_with fail;go_fit(HX.out v0 hE);rintro e v1 ⟨rfl,hE2,ha2⟩;have hg2:=ha2.keep hg (by omega);have hr2:=ha2.keep hr (by omega);replace ha:=ha.trans ha2;have xT:=bU b8 ha2.size;clear hE hg hr ha2 b8;have hE:=hE2;have hg:=hg2;have hr:=hr2;have b8:=xT;clear hE2 hg2 hr2 xT;go_wp2_with fail;refine cC hg (fun h=>by cases h) ?_;refine PT ?_;refine eA eQ D (by kernel_rfl) D (cs:= [O Y (W:Int),O Y (M:Int),O Y (F:Int),O Y L,O Y H]) (by simp) (fun w' hS j v hv=>bL (i:=0+j) (show w'.heap[w.heap.size]?=_ from hS) (by rw[fZ];simpa using hv)) hg (by kernel_rfl) ?_;refine PT ?_;refine Ord.X ?_;go_wp2_with fail;go_fit(HT.out v1);rintro e v2 ⟨rfl,hb2⟩;have hE2:=hE.below hb2 hlo;have hg2:=bV hg hb2 (bT hg);have hr2:=bV hr hb2 (bT hr);replace ha:=ha.trans (fC hb2 (fun j=>j=g));have xT:=bU b8 hb2.size;clear hE hg hr hb2 b8;have hE:=hE2;have hg:=hg2;have hr:=hr2;have b8:=xT;clear hE2 hg2 hr2 xT;go_wp2_with fail;refine cC hg (fun h=>by cases h) ?_;refine PT ?_;iterate 3 refine Ord.K ?_
  refine Ord.X ?_;go_wp2;have hb2:aV v2.heap.size v2 (v2.alloc (aI #[aG aD,O Y 0] 69)):=(bP _ _).alloc (bM _) _;have hE2:=hE.below hb2 hlo;have hg2:=bV hg hb2 (bT hg);have hr2:=bV hr hb2 (bT hr);have hv:=bS v2 (aI #[aG aD,O Y 0] 69);replace ha:=ha.trans (fC hb2 (fun j=>j=g));have xT:=bU b8 hb2.size;refine cC hg2 (fun h=>by cases h) ?_;refine PT ?_;have E8:=b8;clear hE hg hr hb2 b8;generalize(v2.alloc (aI #[aG aD,O Y 0] 69))=v3 at*;have hE:=hE2;have hg:=hg2;have hr:=hr2;have b8:=xT;clear hE2 hg2 hr2 xT;obtain⟨gv,Ln⟩: ∃gv,gv=v2.heap.size:=⟨_,D⟩;rw[←Ln] at hv E8 ⊢;have Hgv:=bK Ln;clear Ln;have q0:=bZ (i:=0) hv;have q1:=bZ (i:=1) hv;have r0:=bL (i:=0) (v:=aG aD) hv D;have r1:=bL (i:=1) (v:=O Y 0) hv D;refine Ord.X ?_;go_wp2;obtain⟨Ez,ha2⟩:=vT hv (aG is) (O Y n);have hE2:=hE.keep ha2 (fun k hk=>by omega) hlo;have hg2:=ha2.keep hg (by omega);have hr2:=ha2.keep hr (by omega);have xT:=bU b8 ha2.size;have ha3:Aw (fun j=>j=g) w ((v3.setCell ⟨gv,0,J⟩ (aG is)).setCell ⟨gv,1,J⟩ (O Y n)):=⟨ha2.os.trans ha.os,ha2.tape.trans ha.tape,ha2.output.trans ha.output,bU ha.size ha2.size,fun k hk hU=>(ha2.block k (cI hk ha.size) (by omega)).trans (ha.block k hk hU)⟩;refine cC hg2 (fun h=>by cases h) ?_;refine PT ?_;generalize((v3.setCell ⟨gv,0,J⟩ (aG is)).setCell ⟨gv,1,J⟩ (O Y n))=v4 at*;clear hE hg hr b8 hv ha2 q0 q1 r0 r1 ha;refine Ord.K ?_;refine cV ?_;have hF:=jL lo g k s2 v4 hE2 hlo;clear hg2;go_wp2_with fail;go_fit hF;rintro e v8 ⟨rfl,hE3,ha4⟩;have zD:=ha4.keep Ez (by omega);have hr3:=ha4.keep hr2 (by omega);have ha5:=ha3.trans ha4;clear hF hE2 hr2 Ez ha4 ha3;have x0:=bL (i:=0) (v:=aG is) zD D;have x1:=bL (i:=1) (v:=O Y n) zD D;have q0:=bZ (i:=0) hr3;have q1:=bZ (i:=1) hr3;have r0:=bL (i:=0) (v:=aG aD) hr3 D;have r1:=bL (i:=1) (v:=O Y 0) hr3 D;obtain⟨hr4,ha6⟩:=vT hr3 (aG is) (O Y n);have hE4:=hE3.keep ha6 (fun k hk=>by omega) hlo;have Dg:Aw (fun j=>j=g) w ((v8.setCell ⟨w.heap.size+1,0,J⟩ (aG is)).setCell ⟨w.heap.size+1,1,J⟩ (O Y n)):=⟨ha6.os.trans ha5.os,ha6.tape.trans ha5.tape,ha6.output.trans ha5.output,bU ha5.size ha6.size,fun k hk hU=>(ha6.block k (cI hk ha5.size) (by omega)).trans (ha5.block k hk hU)⟩
  go_wp2;exact bR (dK D _ _ (w.heap.size+1) _ _ _ _ D hr4 cK D (by kernel_rfl)) D ⟨D,hE4,Dg⟩
 ·simp only[Ord.lst,lI,lV,dO,eV,jJ];refine Ord.K ?_;refine Ord.X ?_;go_wp2_with fail;go_fit(HX.out v0 hE);rintro e v1 ⟨rfl,hE2,ha2⟩;have hg2:=ha2.keep hg (by omega);have hr2:=ha2.keep hr (by omega);replace ha:=ha.trans ha2;have xT:=bU b8 ha2.size;clear hE hg hr ha2 b8;have hE:=hE2;have hg:=hg2;have hr:=hr2;have b8:=xT;clear hE2 hg2 hr2 xT;go_wp2_with fail;refine cC hg (fun h=>by cases h) ?_;refine PT ?_;refine Ord.X ?_;go_wp2;have hb2:aV v1.heap.size v1 (v1.alloc (aI #[aG aD,O Y 0] 69)):=(bP _ _).alloc (bM _) _;have hE2:=hE.below hb2 hlo;have hg2:=bV hg hb2 (bT hg);have hr2:=bV hr hb2 (bT hr);have hv:=bS v1 (aI #[aG aD,O Y 0] 69);replace ha:=ha.trans (fC hb2 (fun j=>j=g));have xT:=bU b8 hb2.size;refine cC hg2 (fun h=>by cases h) ?_;refine PT ?_;have E8:=b8;clear hE hg hr hb2 b8;generalize(v1.alloc (aI #[aG aD,O Y 0] 69))=v2 at*;have hE:=hE2;have hg:=hg2;have hr:=hr2;have b8:=xT;clear hE2 hg2 hr2 xT;obtain⟨gv,Ln⟩: ∃gv,gv=v1.heap.size:=⟨_,D⟩;rw[←Ln] at hv E8 ⊢;have Hgv:=bK Ln;clear Ln;refine eA eQ D (by kernel_rfl) D (cs:= [O Y (W:Int),O Y (M:Int),O Y (F:Int),O Y L,O Y H]) (by simp) (fun w' hS j v hv=>bL (i:=0+j) (show w'.heap[w.heap.size]?=_ from hS) (by rw[fZ];simpa using hv)) hg (by kernel_rfl) ?_;refine PT ?_;refine Ord.X ?_;go_wp2_with fail;go_fit(HT.out v2);rintro e v3 ⟨rfl,hb2⟩;have hE2:=hE.below hb2 hlo;have hg2:=bV hg hb2 (bT hg);have hr2:=bV hr hb2 (bT hr);replace hv:=bV hv hb2 (bT hv);replace ha:=ha.trans (fC hb2 (fun j=>j=g));have xT:=bU b8 hb2.size;clear hE hg hr hb2 b8;have hE:=hE2;have hg:=hg2;have hr:=hr2;have b8:=xT;clear hE2 hg2 hr2 xT;go_wp2_with fail;refine cC hg (fun h=>by cases h) ?_;refine PT ?_;iterate 3 refine Ord.K ?_
  have q0:=bZ (i:=0) hv;have q1:=bZ (i:=1) hv;have r0:=bL (i:=0) (v:=aG aD) hv D;have r1:=bL (i:=1) (v:=O Y 0) hv D;refine Ord.X ?_;go_wp2;obtain⟨Ez,ha2⟩:=vT hv (aG is) (O Y n);have hE2:=hE.keep ha2 (fun k hk=>by omega) hlo;have hg2:=ha2.keep hg (by omega);have hr2:=ha2.keep hr (by omega);have xT:=bU b8 ha2.size;have ha3:Aw (fun j=>j=g) w ((v3.setCell ⟨gv,0,J⟩ (aG is)).setCell ⟨gv,1,J⟩ (O Y n)):=⟨ha2.os.trans ha.os,ha2.tape.trans ha.tape,ha2.output.trans ha.output,bU ha.size ha2.size,fun k hk hU=>(ha2.block k (cI hk ha.size) (by omega)).trans (ha.block k hk hU)⟩;refine cC hg2 (fun h=>by cases h) ?_;refine PT ?_;generalize((v3.setCell ⟨gv,0,J⟩ (aG is)).setCell ⟨gv,1,J⟩ (O Y n))=v4 at*;clear hE hg hr b8 hv ha2 q0 q1 r0 r1 ha;refine Ord.K ?_;refine cV ?_;have hF:=jL lo g k s2 v4 hE2 hlo;clear hg2;go_wp2_with fail;go_fit hF;rintro e v8 ⟨rfl,hE3,ha4⟩;have zD:=ha4.keep Ez (by omega);have hr3:=ha4.keep hr2 (by omega);have ha5:=ha3.trans ha4;clear hF hE2 hr2 Ez ha4 ha3;have x0:=bL (i:=0) (v:=aG is) zD D;have x1:=bL (i:=1) (v:=O Y n) zD D;have q0:=bZ (i:=0) hr3;have q1:=bZ (i:=1) hr3;have r0:=bL (i:=0) (v:=aG aD) hr3 D;have r1:=bL (i:=1) (v:=O Y 0) hr3 D;obtain⟨hr4,ha6⟩:=vT hr3 (aG is) (O Y n);have hE4:=hE3.keep ha6 (fun k hk=>by omega) hlo;have Dg:Aw (fun j=>j=g) w ((v8.setCell ⟨w.heap.size+1,0,J⟩ (aG is)).setCell ⟨w.heap.size+1,1,J⟩ (O Y n)):=⟨ha6.os.trans ha5.os,ha6.tape.trans ha5.tape,ha6.output.trans ha5.output,bU ha5.size ha6.size,fun k hk hU=>(ha6.block k (cI hk ha5.size) (by omega)).trans (ha5.block k hk hU)⟩;go_wp2;exact bR (dK D _ _ (w.heap.size+1) _ _ _ _ D hr4 cK D (by kernel_rfl)) D ⟨D,hE4,Dg⟩
 ·simp only[Ord.lst,lI,lV,dO,eV,jJ];refine Ord.X ?_;go_wp2;have hb2:aV v0.heap.size v0 (v0.alloc (aI #[aG aD,O Y 0] 69)):=(bP _ _).alloc (bM _) _;have hE2:=hE.below hb2 hlo;have hg2:=bV hg hb2 (bT hg);have hr2:=bV hr hb2 (bT hr);have hv:=bS v0 (aI #[aG aD,O Y 0] 69);replace ha:=ha.trans (fC hb2 (fun j=>j=g));have xT:=bU b8 hb2.size;refine cC hg2 (fun h=>by cases h) ?_;refine PT ?_;have E8:=b8;clear hE hg hr hb2 b8;generalize(v0.alloc (aI #[aG aD,O Y 0] 69))=v1 at*;have hE:=hE2;have hg:=hg2;have hr:=hr2;have b8:=xT;clear hE2 hg2 hr2 xT;obtain⟨gv,Ln⟩: ∃gv,gv=v0.heap.size:=⟨_,D⟩;rw[←Ln] at hv E8 ⊢;have Hgv:=bK Ln;clear Ln;refine Ord.K ?_;refine Ord.X ?_;go_wp2_with fail;go_fit(HX.out v1 hE);rintro e v2 ⟨rfl,hE2,ha2⟩;have hg2:=ha2.keep hg (by omega);have hr2:=ha2.keep hr (by omega);replace hv:=ha2.keep hv (by omega);replace ha:=ha.trans ha2;have xT:=bU b8 ha2.size;clear hE hg hr ha2 b8;have hE:=hE2;have hg:=hg2;have hr:=hr2;have b8:=xT;clear hE2 hg2 hr2 xT;go_wp2_with fail;refine cC hg (fun h=>by cases h) ?_;refine PT ?_;refine eA eQ D (by kernel_rfl) D (cs:= [O Y (W:Int),O Y (M:Int),O Y (F:Int),O Y L,O Y H]) (by simp) (fun w' hS j v hv=>bL (i:=0+j) (show w'.heap[w.heap.size]?=_ from hS) (by rw[fZ];simpa using hv)) hg (by kernel_rfl) ?_;refine PT ?_;refine Ord.X ?_;go_wp2_with fail;go_fit(HT.out v2);rintro e v3 ⟨rfl,hb2⟩;have hE2:=hE.below hb2 hlo;have hg2:=bV hg hb2 (bT hg);have hr2:=bV hr hb2 (bT hr);replace hv:=bV hv hb2 (bT hv);replace ha:=ha.trans (fC hb2 (fun j=>j=g));have xT:=bU b8 hb2.size;clear hE hg hr hb2 b8;have hE:=hE2;have hg:=hg2;have hr:=hr2;have b8:=xT;clear hE2 hg2 hr2 xT;go_wp2_with fail;refine cC hg (fun h=>by cases h) ?_;refine PT ?_;iterate 3 refine Ord.K ?_
  have q0:=bZ (i:=0) hv;have q1:=bZ (i:=1) hv;have r0:=bL (i:=0) (v:=aG aD) hv D;have r1:=bL (i:=1) (v:=O Y 0) hv D;refine Ord.X ?_;go_wp2;obtain⟨Ez,ha2⟩:=vT hv (aG is) (O Y n);have hE2:=hE.keep ha2 (fun k hk=>by omega) hlo;have hg2:=ha2.keep hg (by omega);have hr2:=ha2.keep hr (by omega);have xT:=bU b8 ha2.size;have ha3:Aw (fun j=>j=g) w ((v3.setCell ⟨gv,0,J⟩ (aG is)).setCell ⟨gv,1,J⟩ (O Y n)):=⟨ha2.os.trans ha.os,ha2.tape.trans ha.tape,ha2.output.trans ha.output,bU ha.size ha2.size,fun k hk hU=>(ha2.block k (cI hk ha.size) (by omega)).trans (ha.block k hk hU)⟩;refine cC hg2 (fun h=>by cases h) ?_;refine PT ?_;generalize((v3.setCell ⟨gv,0,J⟩ (aG is)).setCell ⟨gv,1,J⟩ (O Y n))=v4 at*;clear hE hg hr b8 hv ha2 q0 q1 r0 r1 ha;refine Ord.K ?_;refine cV ?_;have hF:=jL lo g k s2 v4 hE2 hlo;clear hg2;go_wp2_with fail;go_fit hF;rintro e v8 ⟨rfl,hE3,ha4⟩;have zD:=ha4.keep Ez (by omega);have hr3:=ha4.keep hr2 (by omega);have ha5:=ha3.trans ha4;clear hF hE2 hr2 Ez ha4 ha3;have x0:=bL (i:=0) (v:=aG is) zD D;have x1:=bL (i:=1) (v:=O Y n) zD D;have q0:=bZ (i:=0) hr3;have q1:=bZ (i:=1) hr3;have r0:=bL (i:=0) (v:=aG aD) hr3 D;have r1:=bL (i:=1) (v:=O Y 0) hr3 D;obtain⟨hr4,ha6⟩:=vT hr3 (aG is) (O Y n);have hE4:=hE3.keep ha6 (fun k hk=>by omega) hlo;have Dg:Aw (fun j=>j=g) w ((v8.setCell ⟨w.heap.size+1,0,J⟩ (aG is)).setCell ⟨w.heap.size+1,1,J⟩ (O Y n)):=⟨ha6.os.trans ha5.os,ha6.tape.trans ha5.tape,ha6.output.trans ha5.output,bU ha5.size ha6.size,fun k hk hU=>(ha6.block k (cI hk ha5.size) (by omega)).trans (ha5.block k hk hU)⟩;go_wp2;exact bR (dK D _ _ (w.heap.size+1) _ _ _ _ D hr4 cK D (by kernel_rfl)) D ⟨D,hE4,Dg⟩
theorem B3(Ad:Bool)(lo g:Nat)(st:kY)(w:aS)(h:EyB w lo g st)(hlo:lo≤g)(hk:EyOk st):
  aU bH 319 #[aK (aE ⟨g,0,J⟩),aG Ad] w (e8 w lo g (aM #[aG (nS Ad st).1.is,O Y (nS Ad st).1.n]) (nS Ad st).2):=by
 have hT: ∀w,aU bH 373 #[aH (jA st).1,aH (jA (jA st).2).1,aG Ad] w (Xq w (yI (jA st).1 (jA (jA st).2).1 Ad)):=fun w=>by
  cases Ad
  ·exact S4 _ _ hk.text.1 w
  ·exact Wu _ _ hk.text.1 w
 have he:nS Ad st=((yI (jA st).1 (jA (jA st).2).1 Ad).1,tP (jA (jA st).2).2 (yI (jA st).1 (jA (jA st).2).1 Ad).2):=D;rw[he];obtain⟨q,hq⟩: ∃q,q=yI (jA st).1 (jA (jA st).2).1 Ad:=⟨_,D⟩;rw[←hq] at hT ⊢;obtain⟨⟨is,n⟩,k⟩:=q;simp only;have hX:=fun w h=>kA lo g st w h hlo;have OB:=fun w h=>kA lo g (jA st).2 w h hlo;obtain⟨s,hs⟩: ∃s,s=(jA st).1:=⟨_,D⟩;obtain⟨s2,hs2⟩: ∃s2,s2=(jA st).2:=⟨_,D⟩;rw[←hs,←hs2] at hX;rw[←hs2] at OB ⊢;rw[←hs,←hs2] at hT;obtain⟨t,ht⟩: ∃t,t=(jA s2).1:=⟨_,D⟩;obtain⟨s3,Ta⟩: ∃s3,s3=(jA s2).2:=⟨_,D⟩;rw[←ht,←Ta] at OB;rw[←Ta];rw[←ht] at hT;have HT:=bK hT;have HX:=bK hX;have HX2:=bK OB;have hb:aV w.heap.size w (w.alloc (aI #[aG aD,O Y 0] 69)):=(bP _ _).alloc (bM _) _;have hr:=bS w (aI #[aG aD,O Y 0] 69);have hE:=h.below hb hlo;have yN:=h.lt;have ha:Aw (fun j=>j=g) w (w.alloc (aI #[aG aD,O Y 0] 69)):=fC hb _;have HR:=bK hr;clear hT hX OB hq hs hs2 ht Ta hk h he hb hr;go_enter func319,ntmps319;go_wp2_with fail;go_fit(HX.out _ hE);rintro e v1 ⟨rfl,hE1,ha1⟩;have hr1:=ha1.keep HR.out (by omega);replace ha:=ha.trans ha1;clear HX hE HR ha1;go_wp2_with fail;go_fit(HX2.out _ hE1);rintro e v2 ⟨rfl,hE2,ha1⟩;have hr2:=ha1.keep hr1 (by omega);replace ha:=ha.trans ha1;clear HX2 hE1 hr1 ha1;go_wp2_with fail;go_fit(HT.out v2);rintro e v3 ⟨rfl,hb3⟩;have hE3:=hE2.below hb3 hlo;have hr3:=bV hr2 hb3 (bT hr2);replace ha:=ha.trans (fC hb3 _);clear HT hE2 hr2 hb3;have hb4:aV v3.heap.size v3 (v3.alloc (aI #[aG is,O Y n] 69)):=(bP _ _).alloc (bM _) _;have hE4:=hE3.below hb4 hlo;have hr4:=bV hr3 hb4 (bT hr3);have M9:=bS v3 (aI #[aG is,O Y n] 69);replace ha:=ha.trans (fC hb4 (fun j=>j=g));have LZ:=hE3.lt;have xT:=bT hr3;have HF:=bK (jL lo g k s3 _ hE4 hlo);have HV:=bK M9;have HR:=bK hr4;clear hE3 hr3 hb4 hE4 hr4 M9;go_wp2_with fail;go_fit HF.out;rintro e v8 ⟨rfl,hE3,ha4⟩;have zD:=ha4.keep HV.out (by omega);have hr3:=ha4.keep HR.out (by omega);have ha5:=ha.trans ha4;clear HF HV HR ha4 ha;have x0:=bL (i:=0) (v:=aG is) zD D;have x1:=bL (i:=1) (v:=O Y n) zD D;have q0:=bZ (i:=0) hr3;have q1:=bZ (i:=1) hr3
 have r0:=bL (i:=0) (v:=aG aD) hr3 D;have r1:=bL (i:=1) (v:=O Y 0) hr3 D;obtain⟨hr4,ha6⟩:=vT hr3 (aG is) (O Y n);have hE4:=hE3.keep ha6 (fun k hk=>by omega) hlo;have Dg:Aw (fun j=>j=g) w ((v8.setCell ⟨w.heap.size,0,J⟩ (aG is)).setCell ⟨w.heap.size,1,J⟩ (O Y n)):=⟨ha6.os.trans ha5.os,ha6.tape.trans ha5.tape,ha6.output.trans ha5.output,bU ha5.size ha6.size,fun k hk hU=>(ha6.block k (cI hk ha5.size) (by omega)).trans (ha5.block k hk hU)⟩;go_wp2;exact bR (dK D _ _ w.heap.size _ _ _ _ D hr4 cK D (by kernel_rfl)) D ⟨D,hE4,Dg⟩
end
end Go.Proofs.YtfoabhdppkjmbaaGreat
