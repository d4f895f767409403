import Derived.Test.YtfoabhdppkjmbaaGreatKZ6
import Derived.Test.YtfoabhdppkjmbaaGreatKZ7
import Derived.BigRegionIn
import Derived.RegionIn
set_option linter.unusedSimpArgs false
set_option linter.unusedVariables false
set_option maxHeartbeats 4000000
set_option maxRecDepth 10000
namespace Go.Proofs.YtfoabhdppkjmbaaGreat
open Bool renaming false→aD,true→aF
open Go renaming Addr→aW,Calls→aU,Ending→aX,Program→aZ,TypeId→aY,Value→aT,World→aS
open Go.Ending renaming returned→aJ
open Go.IntKind renaming i64→Y,u8→aP
open Go.Obj renaming cells→aI
open Go.Proofs.Tryz renaming prog→bH
open Go.RowKit renaming Below→aV
open Go.Value renaming agg→aM,bool→aG,int→O,pointer→aK,string→aH,tuple→aN
open Option renaming none→J,some→aE
open Go.Proofs.Tryz
namespace NumLaw
end NumLaw
section
open Go.RowKit NumLaw
attribute [local go_sem] Addr.add_mid
abbrev iX:=@List.append_nil
theorem JM(y:Int)(w:aS)(h:0≤y∧y≤9999):aU bH 394 #[O Y y] w fun e w'=>e=aJ (O Y (if y % 4=0 then 1 else 0))∧w=w':=by
 obtain⟨h0,h1⟩:=h;by_cases hy:y % 4=0
 ·rw[bY hy];go_enter func394,ntmps394;go_wp2;go_ret;exact⟨D,D⟩
 ·rw[bX hy];go_enter func394,ntmps394;go_wp2;go_ret;exact⟨D,D⟩
theorem Fz(n lo hi:Int)(w:aS):aU bH 387 #[O Y n,O Y lo,O Y hi] w fun e w'=>e=aJ (aG (decide (lo≤n∧n≤hi)))∧w=w':=by
 by_cases h1:lo≤n
 ·by_cases h2:n≤hi
  ·rw[dU (show lo≤n∧n≤hi from⟨h1,h2⟩)];go_enter func387,ntmps387;go_wp2;go_ret;exact⟨D,D⟩
  ·rw[dN (show¬(lo≤n∧n≤hi) from fun h=>h2 h.2)];go_enter func387,ntmps387;go_wp2;go_ret;exact⟨D,D⟩
 ·rw[dN (show¬(lo≤n∧n≤hi) from fun h=>h1 h.1)];go_enter func387,ntmps387;go_wp2;go_ret;exact⟨D,D⟩
theorem Mn(m:Int)(h:1≤m∧m≤13):0≤aheadT.getD (m-1).toNat 0∧aheadT.getD (m-1).toNat 0≤365:=by
 have h2:(m-1).toNat<13:=by omega
 generalize(m-1).toNat=k at*;have: ∀k,k<13→0≤aheadT.getD k 0∧aheadT.getD k 0≤365:=by decide
 exact this k h2
theorem L3(m y:Int)(w:aS)(hm:1≤m∧m≤13)(h:0≤y∧y≤9999):aU bH 393 #[O Y m,O Y y] w fun e w'=>e=aJ (O Y (xO m y))∧aV w.heap.size w w':=by
 have hb:aV w.heap.size w (w.alloc (aI #[O Y 0,O Y 31,O Y 59,O Y 90,O Y 120,O Y 151,O Y 181,O Y 212,O Y 243,O Y 273,O Y 304,O Y 334,O Y 365] 587)):=(bP _ _).alloc (bM _) _;have hg:=bS w (aI #[O Y 0,O Y 31,O Y 59,O Y 90,O Y 120,O Y 151,O Y 181,O Y 212,O Y 243,O Y 273,O Y 304,O Y 334,O Y 365] 587);have ht:=Mn m hm;obtain⟨T,hT⟩: ∃T,T=aheadT.getD (m-1).toNat 0:=⟨_,D⟩
 have hc:(w.alloc (aI #[O Y 0,O Y 31,O Y 59,O Y 90,O Y 120,O Y 151,O Y 181,O Y 212,O Y 243,O Y 273,O Y 304,O Y 334,O Y 365] 587)).cell? ⟨w.heap.size,(m-1).toNat,J⟩=aE (O Y T):=by
  refine bL hg ?_;have h2:(m-1).toNat<13:=by omega
  rw[hT];generalize(m-1).toNat=k at*
  have: ∀k,k<13→(#[Value.int Y 0,O Y 31,O Y 59,O Y 90,O Y 120,O Y 151,O Y 181,O Y 212,O Y 243,O Y 273,O Y 304,O Y 334,O Y 365]:Array aT)[k]?=aE (O Y (aheadT.getD k 0)):=by
   intro k hk
   match k,hk with
   |0,_|1,_|2,_|3,_|4,_|5,_|6,_|7,_|8,_|9,_|10,_|11,_|12,_=>rfl
  exact this k h2
 have hV:xO m y=T+(if 2<m then(if y % 4=0 then 1 else 0) else 0):=by rw[hT];rfl
 rw[←hT] at ht;obtain⟨t0,t1⟩:=ht;obtain⟨m0,m1⟩:=hm;have HV:=bK hV;have HC:=bK hc;have HL:=bK (fun w=>JM y w h);clear hV hc hg hT h;obtain⟨i,hi⟩: ∃i:Nat,(i:Int)=m-1:=⟨(m-1).toNat,by omega⟩;obtain rfl:m=(i:Int)+1:=by omega
 have aH2:(i:Int)<13:=by omega
 have HI:Hid (((i:Int)+1-1).toNat=i):=bK (by omega);rw[HI.out] at HC;clear hi HI;by_cases h2:2<(i:Int)+1
 ·rw[bY h2] at HV;have hL:=HL.out (w.alloc (aI #[O Y 0,O Y 31,O Y 59,O Y 90,O Y 120,O Y 151,O Y 181,O Y 212,O Y 243,O Y 273,O Y 304,O Y 334,O Y 365] 587));obtain⟨z,hz⟩: ∃z:Int,z=(if y % 4=0 then 1 else 0):=⟨_,D⟩;have WR:0≤z∧z≤1:=by rw[hz];split<;>omega
  rw[←hz] at HV hL;obtain⟨z0,z1⟩:=WR;clear hz;go_enter func393,ntmps393;have hc:=HC.out;go_wp2_with fail;go_fit hL;rintro e w2 ⟨rfl,rfl⟩;go_wp2;go_ret;exact⟨by rw[HV.out];rfl,hb⟩
 ·rw[bX h2] at HV;go_enter func393,ntmps393;have hc:=HC.out;go_wp2;go_ret;exact⟨by rw[HV.out,Int.add_zero];rfl,hb⟩
theorem Qw{t:ByteArray}(h:1<t.size):oG (sb t)=kL t[0] t[1]::oG (sb (t.extract 2 t.size)):=by
 rw[y8];have e0:=qF t 0 (by omega);have e1:=qF t 1 h;rw[iN] at e0;rw[e0,e1];rfl
theorem T0{t:ByteArray}(h: ¬1<t.size):oG (sb t)= []:=by
 have hl:=iI t
 match hs:sb t with
 | []=>rfl
 | [a]=>rfl
 |a::b::l=>rw[hs] at hl;simp at hl;omega
def IE(w:aS)(g:Nat):Nat:=match w.cell? ⟨g,0,J⟩ with|some (aH t)=>t.size|_=>0
theorem Em{w:aS}{g:Nat}{t:ByteArray}{T:aY}(h:w.heap[g]?=aE (aI #[aH t] T)):IE w g=t.size:=by
 unfold IE;rw[bL (i:=0) (v:=aH t) h D]
theorem Fl(s:ByteArray)(g m:Nat)(hz:s.size≤1000000):
  TB bH m 392 #[aK (aE ⟨g,0,J⟩)] (fun x:Int × Bool=> #[O Y x.1,aG x.2]) (fun k=>k=g) (fun k=>k=g) (oG (sb s))
   (fun W=>W.heap[g]?=aE (aI #[aH s] 9)):=by
 intro l aB Jx W h1 hJ hJx hY h0;have Lk:Fence.wide.round=J:=D;refine callsIn_of_wp func392 D cM ?_ Lk;simp only[ntmps392,cG,dM,hH,Nat.reduceAdd,Nat.reduceSub,gH,gG,iQ,gR,eF,dS];gi_wp2;gi_loopw [3,4] (fun a b wr=> ∃(pre:List (Int × Bool)) (t:ByteArray) (a0 b0:aT),a=a0∧b=b0∧aB pre wr∧wr.heap[g]?=aE (aI #[aH t] 9)∧Hid (oG (sb s)=pre++oG (sb t))∧t.size≤1000000) (fun a b wr=>IE wr g);case atStart=>exact⟨[],s,_,_,D,D,h0,h1,bK D,hz⟩
 case round=>
  obtain⟨pre,t,a0,b0,rfl,rfl,hj,hg,HP,wv⟩:=hrel;have Dh:=Em hg;have Hm0:=bK Dh;clear Dh;by_cases fF:1<t.size
  ·have hp:=Qw fF;have z7:(1:Int)<(t.size:Int):=by omega
   have Cd:(0:Int)<(t.size:Int):=by omega
   have Lo:(2:Int)≤(t.size:Int):=by omega
   have c1:=bL (i:=0) (v:=aH t) hg D;obtain⟨a,ha⟩: ∃a,a=d1 t[0]:=⟨_,D⟩;obtain⟨b,hb⟩: ∃b,b=d1 t[1]:=⟨_,D⟩;have ea:((t[0].toNat:Int)-48)% 256=(a:Int):=by rw[ha];unfold d1;have:=t[0].toNat_lt;omega
   have eb:((t[1].toNat:Int)-48)% 256=(b:Int):=by rw[hb];unfold d1;have:=t[1].toNat_lt;omega
   have la:(a:Int)≤255:=by rw[ha];unfold d1;omega
   have lb:(b:Int)≤255:=by rw[hb];unfold d1;omega
   have qc:kL t[0] t[1]=(10*(a:Int)+(b:Int),decide (a<10) && decide (b<10)):=by rw[ha,hb];rfl
   have hp:=Qw fF;rw[qc] at hp;have hY':=bK (fun c=>hY pre (10*(a:Int)+(b:Int),c) wr.drew (hJ pre _ wr.drew hj ((cY _ _).drew)));have yC:oG (sb s)=(pre++ [(10*(a:Int)+(b:Int),decide (a<10) && decide (b<10))])++oG (sb (t.extract 2 t.size)):=by rw[HP.out,hp];simp
   have Km:wr.drew.heap[g]?=aE (aI #[aH t] 9):=hg;have HA:=bK (bO ha hb);clear hp ha hb qc hY hj hg;by_cases h1:a<10
   ·by_cases h2:b<10
    ·have i1:(a:Int)<10:=by omega
     have i2:(b:Int)<10:=by omega
     rw[show(decide (a<10) && decide (b<10))=aF by simp[h1,h2]] at yC;have HP3:=bK yC;have hX:(pre++ [(10*(a:Int)+(b:Int),aF)])<+:oG (sb s):=⟨_,HP3.out.symm⟩;obtain⟨fn,tmps,assign,body,hy,hR⟩:=hY'.out aF hX;have HX:=bK hX;clear yC hY' hX h1 h2;gi_wp2
     gi_region
     all_goals
      gi_wp2;refine⟨fun hd=>by simp[Fence.wide] at hd,hR.mono ?_⟩;rintro e W3 (⟨rfl,Ey,hk3⟩|⟨rfl,De⟩)
      ·have Cq:=hk3.2 _ _ D Km;have c3:=bL (i:=0) (v:=aH t) Cq D;have f3:=bZ (i:=0) Cq;have g4:=cN (i:=0) Cq (aH (t.extract 2 t.size));have HR4:=bK (hJ _ _ _ Ey ((cY _ _).set (p:=⟨g,0,J⟩) (aH (t.extract 2 t.size)) D));have Hg4:=bK g4;have Hm4:=bK (Em g4);clear Ey hk3 Cq g4 Km c1;gi_wp2;go_roundw;case rel=>exact⟨_,t.extract 2 t.size,_,_,D,D,HR4.out,Hg4.out,HP3,by rw[eH];omega⟩
       case measure=>rw[Hm4.out,Hm0.out,eH];omega
      ·clear c1 Km;gi_wp2;refine bR (cT D _ _ _) D ?_;exact⟨⟨_,D⟩,.inr ⟨_,HX.out,De⟩⟩
    ·have i1:(a:Int)<10:=by omega
     have i2: ¬(b:Int)<10:=by omega
     have j2:decide ((b:Int)<10)=aD:=dN i2;rw[show(decide (a<10) && decide (b<10))=aD by simp[h1,h2]] at yC;have HP3:=bK yC;have hX:(pre++ [(10*(a:Int)+(b:Int),aD)])<+:oG (sb s):=⟨_,HP3.out.symm⟩;obtain⟨fn,tmps,assign,body,hy,hR⟩:=hY'.out aD hX;have HX:=bK hX;clear yC hY' hX h1 h2;gi_wp2
     gi_region
     all_goals
      gi_wp2;refine⟨fun hd=>by simp[Fence.wide] at hd,hR.mono ?_⟩;rintro e W3 (⟨rfl,Ey,hk3⟩|⟨rfl,De⟩)
      ·have Cq:=hk3.2 _ _ D Km;have c3:=bL (i:=0) (v:=aH t) Cq D;have f3:=bZ (i:=0) Cq;have g4:=cN (i:=0) Cq (aH (t.extract 2 t.size));have HR4:=bK (hJ _ _ _ Ey ((cY _ _).set (p:=⟨g,0,J⟩) (aH (t.extract 2 t.size)) D));have Hg4:=bK g4;have Hm4:=bK (Em g4);clear Ey hk3 Cq g4 Km c1;gi_wp2;go_roundw;case rel=>exact⟨_,t.extract 2 t.size,_,_,D,D,HR4.out,Hg4.out,HP3,by rw[eH];omega⟩
       case measure=>rw[Hm4.out,Hm0.out,eH];omega
      ·clear c1 Km;gi_wp2;refine bR (cT D _ _ _) D ?_;exact⟨⟨_,D⟩,.inr ⟨_,HX.out,De⟩⟩
   ·have i1: ¬(a:Int)<10:=by omega
    rw[show(decide (a<10) && decide (b<10))=aD by simp[h1]] at yC;have HP3:=bK yC;have hX:(pre++ [(10*(a:Int)+(b:Int),aD)])<+:oG (sb s):=⟨_,HP3.out.symm⟩;obtain⟨fn,tmps,assign,body,hy,hR⟩:=hY'.out aD hX;have HX:=bK hX;clear yC hY' hX h1;gi_wp2
    gi_region
    all_goals
     gi_wp2;refine⟨fun hd=>by simp[Fence.wide] at hd,hR.mono ?_⟩;rintro e W3 (⟨rfl,Ey,hk3⟩|⟨rfl,De⟩)
     ·have Cq:=hk3.2 _ _ D Km;have c3:=bL (i:=0) (v:=aH t) Cq D;have f3:=bZ (i:=0) Cq;have g4:=cN (i:=0) Cq (aH (t.extract 2 t.size));have HR4:=bK (hJ _ _ _ Ey ((cY _ _).set (p:=⟨g,0,J⟩) (aH (t.extract 2 t.size)) D));have Hg4:=bK g4;have Hm4:=bK (Em g4);clear Ey hk3 Cq g4 Km c1;gi_wp2;go_roundw;case rel=>exact⟨_,t.extract 2 t.size,_,_,D,D,HR4.out,Hg4.out,HP3,by rw[eH];omega⟩
      case measure=>rw[Hm4.out,Hm0.out,eH];omega
     ·clear c1 Km;gi_wp2;refine bR (cT D _ _ _) D ?_;exact⟨⟨_,D⟩,.inr ⟨_,HX.out,De⟩⟩
  ·have z7: ¬(1:Int)<(t.size:Int):=by omega
   have c1:=bL (i:=0) hg D;have HP2:Hid (pre=oG (sb s)):=bK (by rw[HP.out,T0 fF,iX]);gi_wp2;go_end0;exact⟨⟨_,D⟩,.inl (by rw[←HP2.out];exact hj)⟩
end
section
open Go.RowKit NumLaw
attribute [local go_sem] Addr.add_mid Oper.semAt_some
abbrev eM:=@underlying4
abbrev tC:=@underlying130
theorem Fu(s:ByteArray)(w:aS):aU bH 386 #[aH s] w fun e w'=>e=aJ (.func (.func 392) #[] #[aK (aE ⟨w.heap.size,0,J⟩)])∧w'=w.alloc (aI #[aH s] 9):=by
 go_enter func386,ntmps386;go_wp2;go_ret;exact⟨D,D⟩
def zi(w:aS)(o:Option (Int × Int × Int))(e:aX)(w':aS):Prop:=
 ∃a b c:Int,∃ok:Bool,e=aJ (aN #[aM #[O Y a,O Y b,O Y c],aG ok])∧o.isSome=ok∧(ok=aF→o=aE (a,b,c))∧aV w.heap.size w w'
theorem wV{P:aZ}{fn:Func}{p q:Tmp}{t1 t2:aY}(h:fn.results= #[.cell p t1,.cell q t2])(tmps:Array aT)(w:aS)(g:Nat)(t:aY)(cs:Array aT)(fr:Nat × Nat)(d1:TypeDesc)(b:aW)(v:aT)(d2:TypeDesc)
  (hp:tmps.getD p undef=aK (aE ⟨g,0,J⟩)) (hq:tmps.getD q undef=aK (aE b)) (hg:w.heap[g]?=aE (aI cs t fr)) (h1:P.underlying t1=aE d1) (n1:(match d1 with| .struct _| .array _ _=>aF|_=>aD)=aF) (hi:(P.info? t1).map (·.size)=aE cs.size)
  (h2:P.underlying t2=aE d2) (n2:(match d2 with| .struct _=>aD| .array _ _=>aD|_=>aF)=aF) (hb:w.cell? b=aE v):
  (results fn tmps).run P w= .ok (aN #[.agg cs,v]) w:=by
 have yC:tmps[p]?.getD undef=aK (aE ⟨g,0,J⟩):=by simpa using hp
 have NZ:tmps[q]?.getD undef=aK (aE b):=by simpa using hq
 have g2:(isAgg t2).run P w= .ok aD w:=by unfold isAgg;rw[eB,dE h2 w];cases d2<;>simp at n2<;>rfl
 have l2:(loadVar t2 b).run P w= .ok v w:=by unfold loadVar;rw[eB,g2];simp[load,Sem.run,hb]
 simp[results,h,yC,NZ,asAddr,mL w g t t1 cs fr d1 hg h1 n1 hi,l2]
theorem Fs{l:List UInt8}(h:l.length=6): ∃a b c d e f,l= [a,b,c,d,e,f]:=by
 match l,h with
 | [a,b,c,d,e,f],_=>exact⟨a,b,c,d,e,f,D⟩
def p3(l:List (Int × Bool))(j:Nat):Int:=(l.map Prod.fst).getD j 0
theorem GD{l:List UInt8}(h:l.length=6)(ha: ∀x∈oG l,x.2=aF):sR l=aE (p3 (oG l) 0,p3 (oG l) 1,p3 (oG l) 2):=by
 obtain⟨a,b,c,d,e,f,rfl⟩:=Fs h;have h1:=ha (kL a b) (by simp[oG]);have h2:=ha (kL c d) (by simp[oG]);have h3:=ha (kL e f) (by simp[oG]);show(if(kL a b).2=aF∧(kL c d).2=aF∧(kL e f).2=aF then aE ((kL a b).1,(kL c d).1,(kL e f).1) else J)=_;rw[bY ⟨h1,h2,h3⟩];rfl
theorem GL{l:List UInt8}(h:l.length=6){x:Int × Bool}(hx:x∈oG l)(hb:x.2=aD):sR l=J:=by
 obtain⟨a,b,c,d,e,f,rfl⟩:=Fs h;show(if(kL a b).2=aF∧(kL c d).2=aF∧(kL e f).2=aF then aE ((kL a b).1,(kL c d).1,(kL e f).1) else J)=_;rw[bX];rintro⟨h1,h2,h3⟩;simp only[oG,fL,fY,oY] at hx;rcases hx with rfl|rfl|rfl
 ·rw[h1] at hb;cases hb
 ·rw[h2] at hb;cases hb
 ·rw[h3] at hb;cases hb
theorem Wy{l:List UInt8}(h:l.length=6):(oG l).length=3:=by
 obtain⟨a,b,c,d,e,f,rfl⟩:=Fs h;rfl
def I3(S:Nat)(w:aS)(pre:List (Int × Bool))(W:aS):Prop:=
 W.heap[S]?=aE (aI #[O Y 0,O Y 0,O Y 0] 130)∧W.heap[S+1]?=aE (aI #[aG aD] 4)∧W.heap[S+2]?=aE (aI #[O Y (p3 pre 0),O Y (p3 pre 1),O Y (p3 pre 2)] 130)∧
  W.heap[S+3]?=aE (aI #[O Y (pre.length:Int)] 3)∧(∀x∈pre,x.2=aF)∧aV S w W
def X3(S:Nat)(w:aS)(c:Code)(pre:List (Int × Bool))(W:aS):Prop:=
 c= .ret∧(∃x∈pre,x.2=aD)∧(∃a b d:Int,W.heap[S]?=aE (aI #[O Y a,O Y b,O Y d] 130))∧W.heap[S+1]?=aE (aI #[aG aD] 4)∧aV S w W
theorem nu{w:aS}{g e:Nat}{a b c:aT}(h:w.heap[g]?=aE (aI #[a,b,c] e))(x y z:aT):
  (((w.setCell ⟨g,0,J⟩ x).setCell ⟨g,1,J⟩ y).setCell ⟨g,2,J⟩ z).heap[g]?=aE (aI #[x,y,z] e)∧Aw (fun k=>k=g) w (((w.setCell ⟨g,0,J⟩ x).setCell ⟨g,1,J⟩ y).setCell ⟨g,2,J⟩ z):=
 ⟨cN (i:=2) (cN (i:=1) (cN (i:=0) h x) y) z,(((cY (fun k=>k=g) w).set (p:=⟨g,0,J⟩) x D).set (p:=⟨g,1,J⟩) y D).set (p:=⟨g,2,J⟩) z D⟩
theorem Fh(s:ByteArray)(w:aS)(hz:s.size≤1000000):aU bH 375 #[aH s] w (zi w (sR (sb s))):=by
 by_cases h6:s.size=6
 case neg=>
  have h6': ¬(s.size:Int)=6:=by omega
  have hT:sR (sb s)=J:=by
   have hl:=iI s;unfold sR;split
   ·rename_i h;rw[h] at hl;simp at hl;omega
   ·rfl
  have HT:=bK hT;have MA:=WD w (aI #[O Y 0,O Y 0,O Y 0] 130) (aI #[aG aD] 4) (aI #[O Y 0,O Y 0,O Y 0] 130);have HG:=bK MA;clear hT h6 MA;go_enter func375,ntmps375;go_wp2;obtain⟨g0,g1,g2,_,hb⟩:=HG.out;refine bR (wV D _ _ w.heap.size _ _ _ _ ⟨w.heap.size+1,0,J⟩ (aG aD) _ D D g0 tC D (by kernel_rfl) eM D (bL (i:=0) g1 D)) D ?_;exact⟨0,0,0,aD,D,by rw[HT.out];rfl,(fun h=>by cases h),hb⟩
 case pos=>
  have h6':(s.size:Int)=6:=by omega
  have hl6:(sb s).length=6:=by rw[iI];exact h6
  have H6:=bK hl6;have hP:=Fu s ((((w.alloc (aI #[O Y 0,O Y 0,O Y 0] 130)).alloc (aI #[aG aD] 4)).alloc (aI #[O Y 0,O Y 0,O Y 0] 130)).alloc (aI #[O Y 0] 3));have hG5:=al5 w (aI #[O Y 0,O Y 0,O Y 0] 130) (aI #[aG aD] 4) (aI #[O Y 0,O Y 0,O Y 0] 130) (aI #[O Y 0] 3) (aI #[aH s] 9);have HG:=bK hG5;clear hG5 hl6 h6;refine(rK (n:=9)).1 ?_;have Lk:Fence.wide.round=J:=D;refine lH func375 D cM ?_ Lk;simp only[ntmps375,cG,dM,hH,Nat.reduceAdd,Nat.reduceSub,gH,gG,iQ,gR,eF,dS];gi_wp2_with fail;refine⟨cM,(callsIn_wide.2 hP).mono ?_⟩;rintro x w1 ⟨rfl,rfl⟩;gi_wp2_with fail;obtain⟨p0,p1,p2,p3',p4,qJ,hb5⟩:=HG.out;generalize(((((w.alloc (aI #[O Y 0,O Y 0,O Y 0] 130)).alloc (aI #[aG aD] 4)).alloc (aI #[O Y 0,O Y 0,O Y 0] 130)).alloc (aI #[O Y 0] 3)).alloc (aI #[aH s] 9))=w5 at*;have Hs:=bK qJ;clear qJ HG hP;have qJ:=Hs.out
  refine vP D (wU func392 (by kernel_rfl) D) (Fl s (w.heap.size+4) _ hz) (fun W hW=>hW.keep p4 (fun hk=>hk)) (fun x=>rfl) (fun k hk=>by rw[hk,qJ];omega) (fun k hk=>by rw[hk,qJ];omega)
   (I3 w.heap.size w) (X3 w.heap.size w) ?hI ?hIx ?h0 (fun x=> { tmps:= #[aH s,undef,aK (aE ⟨w.heap.size,0,J⟩),aK (aE ⟨w.heap.size+1,0,J⟩),aK (aE ⟨w.heap.size+1+1,0,J⟩),aK (aE ⟨w.heap.size+1+1+1,0,J⟩),O Y x.1,aG x.2,aH s,O Y 6,aG aD,undef,aH s,.func (.func 392) #[] #[aK (aE ⟨w.heap.size+1+1+1+1,0,J⟩)],O Y x.1,aG x.2,undef,undef,undef,undef,undef,undef,undef,undef,undef],defers:= [] }) ?assign ?body ?done ?stop
  case hI=>
   rintro pre A B ⟨i0,i1,i2,i3,i4,i5⟩ hab;have hn: ∀k,(k=w.heap.size+4∨k=w5.heap.size∨k=w5.heap.size+1)→w.heap.size+4≤k:=fun k hk=>by rw[qJ] at hk;omega
   have hA:=bT i0;exact⟨hab.keep i0 (fun hk=>by have:=hn _ hk;omega),hab.keep i1 (fun hk=>by have:=hn _ hk;omega),hab.keep i2 (fun hk=>by have:=hn _ hk;omega),hab.keep i3 (fun hk=>by have:=hn _ hk;omega),i4,gJ i5 hab (fun k hk=>by have:=hn _ hk;omega) (by omega)⟩
  case hIx=>
   rintro cc pre A B ⟨rfl,i4,⟨a,b,d,i0⟩,i1,i5⟩ hab;have hn: ∀k,(k=w.heap.size+4∨k=w5.heap.size∨k=w5.heap.size+1)→w.heap.size+4≤k:=fun k hk=>by rw[qJ] at hk;omega
   have hA:=bT i0;exact⟨D,i4,⟨a,b,d,hab.keep i0 (fun hk=>by have:=hn _ hk;omega)⟩,hab.keep i1 (fun hk=>by have:=hn _ hk;omega),gJ i5 hab (fun k hk=>by have:=hn _ hk;omega) (by omega)⟩
  case h0=>exact⟨p0,p1,p2,p3',(fun x hx=>by cases hx),hb5⟩
  case assign=>intro l x W K hK;gi_wp2;exact hK
  case body=>
   rintro pre x W ⟨i0,i1,i2,i3,i4,i5⟩ hpre zB;have Am:=hpre.length_le;rw[Wy H6.out] at Am;rw[qJ] at zB;obtain⟨v,ok⟩:=x;have hA:=bT i0
   cases ok with
   |false=>
    have o0:=bL (i:=0) (v:=O Y (p3 pre 0)) i2 D;have o1:=bL (i:=1) (v:=O Y (p3 pre 1)) i2 D;have o2:=bL (i:=2) (v:=O Y (p3 pre 2)) i2 D;have c0:=bL (i:=0) (v:=O Y 0) i0 D;have c1:=bL (i:=1) (v:=O Y 0) i0 D;have c2:=bL (i:=2) (v:=O Y 0) i0 D;have f0:=bZ (i:=0) i0;have f1:=bZ (i:=1) i0;have f2:=bZ (i:=2) i0;have d0:=bL (i:=0) (v:=aG aD) i1 D;have e0:=bZ (i:=0) i1;obtain⟨k0,hA1⟩:=nu i0 (O Y (p3 pre 0)) (O Y (p3 pre 1)) (O Y (p3 pre 2));have k1:=hA1.keep i1 (by omega);have k2:=cN (i:=0) k1 (aG aD);have hA2:Aw (fun k=>k=w.heap.size+1) _ ((((W.setCell ⟨w.heap.size,0,J⟩ (O Y (p3 pre 0))).setCell ⟨w.heap.size,1,J⟩ (O Y (p3 pre 1))).setCell ⟨w.heap.size,2,J⟩ (O Y (p3 pre 2))).setCell ⟨w.heap.size+1,0,J⟩ (aG aD)):=(cY _ _).set _ D;have k3:=hA2.keep k0 (by omega);have hA3:Aw (fun k=>k=w.heap.size∨k=w.heap.size+1) W _:=(hA1.mono fun k hk=> .inl hk).trans (hA2.mono fun k hk=> .inr hk);have k5:=gJ i5 hA3 (fun k hk=>by omega) (by omega);generalize p3 pre 0=q0 at*;generalize p3 pre 1=q1 at*;generalize p3 pre 2=q2 at*;have hfin:X3 w.heap.size w .ret (pre++ [(v,aD)]) _:=⟨D,⟨_,qC _ cP,D⟩,⟨q0,q1,q2,k3⟩,k2,k5⟩;have HF:=bK hfin;have HA3:=bK hA3;clear hfin hA3 hA2 hA1 k0 k1 k2 k3 k5 i0 i1 i2 i3 i4 i5;gi_wp2;exact⟨HA3.out.keeps fun k hk hu=>by rw[qJ] at hk;omega,HF.out⟩
   |true=>
    have hall: ∀x∈pre++ [(v,aF)],x.2=aF:=fun x hx=>by
     rcases List.mem_append.1 hx with h|h
     ·exact i4 x h
     ·simp at h;rw[h]
    have HALL:=bK hall;have aH4:=bK hpre;clear hall hpre i4
    match pre,Am with
    | [],_=>
     replace i2:W.heap[w.heap.size+2]?=aE (aI #[O Y (0),O Y (0),O Y (0)] 130):=i2;replace i3:W.heap[w.heap.size+3]?=aE (aI #[O Y 0] 3):=i3;have c3:=bL (i:=0) (v:=O Y 0) i3 D;have f3:=bZ (i:=0) i3;have c2:=bL (i:=0) (v:=O Y (0)) i2 D;have f2:=bZ (i:=0) i2;have j2:=cN (i:=0) i2 (O Y v);have hA1:Aw (fun k=>k=w.heap.size+2) W (W.setCell ⟨w.heap.size+2,0,J⟩ (O Y v)):=(cY _ _).set _ D;have m0:=hA1.keep i0 (by omega);have m1:=hA1.keep i1 (by omega);have m3:=hA1.keep i3 (by omega);have j3:=cN (i:=0) m3 (O Y 1);have hA2:Aw (fun k=>k=w.heap.size+3) _ ((W.setCell ⟨w.heap.size+2,0,J⟩ (O Y v)).setCell ⟨w.heap.size+3,0,J⟩ (O Y 1)):=(cY _ _).set _ D;have n0:=hA2.keep m0 (by omega);have n1:=hA2.keep m1 (by omega);have n2:=hA2.keep j2 (by omega);have hA3:Aw (fun k=>k=w.heap.size+2∨k=w.heap.size+3) W _:=(hA1.mono fun k hk=> .inl hk).trans (hA2.mono fun k hk=> .inr hk);have k5:=gJ i5 hA3 (fun k hk=>by omega) (by omega);have hfin:I3 w.heap.size w ([]++ [(v,aF)]) _:=⟨n0,n1,n2,j3,HALL.out,k5⟩;have HF:=bK hfin;have HA3:=bK hA3;clear hfin hA3 hA2 hA1 n0 n1 n2 m0 m1 m3 j2 j3 k5 i0 i1 i2 i3 i5;gi_wp2;exact⟨HA3.out.keeps fun k hk hu=>by rw[qJ] at hk;omega,HF.out⟩
    | [y0],_=>
     replace i2:W.heap[w.heap.size+2]?=aE (aI #[O Y (y0.1),O Y (0),O Y (0)] 130):=i2;replace i3:W.heap[w.heap.size+3]?=aE (aI #[O Y 1] 3):=i3;have c3:=bL (i:=0) (v:=O Y 1) i3 D;have f3:=bZ (i:=0) i3;have c2:=bL (i:=1) (v:=O Y (0)) i2 D;have f2:=bZ (i:=1) i2;have j2:=cN (i:=1) i2 (O Y v);have hA1:Aw (fun k=>k=w.heap.size+2) W (W.setCell ⟨w.heap.size+2,1,J⟩ (O Y v)):=(cY _ _).set _ D;have m0:=hA1.keep i0 (by omega);have m1:=hA1.keep i1 (by omega);have m3:=hA1.keep i3 (by omega);have j3:=cN (i:=0) m3 (O Y 2);have hA2:Aw (fun k=>k=w.heap.size+3) _ ((W.setCell ⟨w.heap.size+2,1,J⟩ (O Y v)).setCell ⟨w.heap.size+3,0,J⟩ (O Y 2)):=(cY _ _).set _ D;have n0:=hA2.keep m0 (by omega);have n1:=hA2.keep m1 (by omega);have n2:=hA2.keep j2 (by omega);have hA3:Aw (fun k=>k=w.heap.size+2∨k=w.heap.size+3) W _:=(hA1.mono fun k hk=> .inl hk).trans (hA2.mono fun k hk=> .inr hk);have k5:=gJ i5 hA3 (fun k hk=>by omega) (by omega);have hfin:I3 w.heap.size w ([y0]++ [(v,aF)]) _:=⟨n0,n1,n2,j3,HALL.out,k5⟩;have HF:=bK hfin;have HA3:=bK hA3;clear hfin hA3 hA2 hA1 n0 n1 n2 m0 m1 m3 j2 j3 k5 i0 i1 i2 i3 i5;gi_wp2;exact⟨HA3.out.keeps fun k hk hu=>by rw[qJ] at hk;omega,HF.out⟩
    | [y0,y1],_=>
     replace i2:W.heap[w.heap.size+2]?=aE (aI #[O Y (y0.1),O Y (y1.1),O Y (0)] 130):=i2;replace i3:W.heap[w.heap.size+3]?=aE (aI #[O Y 2] 3):=i3;have c3:=bL (i:=0) (v:=O Y 2) i3 D;have f3:=bZ (i:=0) i3;have c2:=bL (i:=2) (v:=O Y (0)) i2 D;have f2:=bZ (i:=2) i2;have j2:=cN (i:=2) i2 (O Y v);have hA1:Aw (fun k=>k=w.heap.size+2) W (W.setCell ⟨w.heap.size+2,2,J⟩ (O Y v)):=(cY _ _).set _ D;have m0:=hA1.keep i0 (by omega);have m1:=hA1.keep i1 (by omega);have m3:=hA1.keep i3 (by omega);have j3:=cN (i:=0) m3 (O Y 3);have hA2:Aw (fun k=>k=w.heap.size+3) _ ((W.setCell ⟨w.heap.size+2,2,J⟩ (O Y v)).setCell ⟨w.heap.size+3,0,J⟩ (O Y 3)):=(cY _ _).set _ D;have n0:=hA2.keep m0 (by omega);have n1:=hA2.keep m1 (by omega);have n2:=hA2.keep j2 (by omega);have hA3:Aw (fun k=>k=w.heap.size+2∨k=w.heap.size+3) W _:=(hA1.mono fun k hk=> .inl hk).trans (hA2.mono fun k hk=> .inr hk);have k5:=gJ i5 hA3 (fun k hk=>by omega) (by omega);have hfin:I3 w.heap.size w ([y0,y1]++ [(v,aF)]) _:=⟨n0,n1,n2,j3,HALL.out,k5⟩;have HF:=bK hfin;have HA3:=bK hA3;clear hfin hA3 hA2 hA1 n0 n1 n2 m0 m1 m3 j2 j3 k5 i0 i1 i2 i3 i5;gi_wp2;exact⟨HA3.out.keeps fun k hk hu=>by rw[qJ] at hk;omega,HF.out⟩
    |y0::y1::y2::l,h=>exact absurd h (by simp)
  case done=>rintro W ⟨i0,i1,i2,i3,i4,i5⟩ hd;have hA:=bT i0;have hT:=GD H6.out i4;generalize p3 (oG (sb s)) 0=q0 at*;generalize p3 (oG (sb s)) 1=q1 at*;generalize p3 (oG (sb s)) 2=q2 at*;have o0:=bL (i:=0) (v:=O Y q0) i2 D;have o1:=bL (i:=1) (v:=O Y q1) i2 D;have o2:=bL (i:=2) (v:=O Y q2) i2 D;have c0:=bL (i:=0) (v:=O Y 0) i0 D;have c1:=bL (i:=1) (v:=O Y 0) i0 D;have c2:=bL (i:=2) (v:=O Y 0) i0 D;have f0:=bZ (i:=0) i0;have f1:=bZ (i:=1) i0;have f2:=bZ (i:=2) i0;have d0:=bL (i:=0) (v:=aG aD) i1 D;have e0:=bZ (i:=0) i1;obtain⟨k0,hA1⟩:=nu i0 (O Y q0) (O Y q1) (O Y q2);have k1:=hA1.keep i1 (by omega);have k2:=cN (i:=0) k1 (aG aF);have hA2:Aw (fun k=>k=w.heap.size+1) _ ((((W.setCell ⟨w.heap.size,0,J⟩ (O Y q0)).setCell ⟨w.heap.size,1,J⟩ (O Y q1)).setCell ⟨w.heap.size,2,J⟩ (O Y q2)).setCell ⟨w.heap.size+1,0,J⟩ (aG aF)):=(cY _ _).set _ D;have k3:=hA2.keep k0 (by omega);have hA3:Aw (fun k=>k=w.heap.size∨k=w.heap.size+1) W _:=(hA1.mono fun k hk=> .inl hk).trans (hA2.mono fun k hk=> .inr hk);have k5:=gJ i5 hA3 (fun k hk=>by omega) (by omega);have hd2:=hA3.keep hd (by rw[qJ];omega);have HT:=bK hT;clear hT hA3 hA2 hA1 k0 k1 i0 i1 i2 i3 i4 i5 hd;gi_wp2;generalize((((W.setCell ⟨w.heap.size,0,J⟩ (O Y q0)).setCell ⟨w.heap.size,1,J⟩ (O Y q1)).setCell ⟨w.heap.size,2,J⟩ (O Y q2)).setCell ⟨w.heap.size+1,0,J⟩ (aG aF))=W1 at*;refine⟨by simp,.inl ⟨_,_,D,lR hd2,?_⟩⟩;have hA7:Aw (fun k=>k=w5.heap.size) W1 (W1.putObj w5.heap.size (.deferred J)):=(cY _ _).put _ D;have m4:=hA7.keep k3 (by rw[qJ];omega);have m3:=hA7.keep k2 (by rw[qJ];omega);have DH:=bT k3;have m5:=gJ k5 hA7 (fun k hk=>by rw[qJ] at hk;omega) (by omega);have hr:=wV (P:=bH) (fn:=Tryz.f375) Tryz.results375;refine⟨_,hr _ _ w.heap.size _ _ _ _ ⟨w.heap.size+1,0,J⟩ (aG aF) _ D D m4 tC D (by kernel_rfl) eM D (bL (i:=0) m3 D),?_⟩;exact⟨q0,q1,q2,aF,D,by rw[HT.out];rfl,(fun _=>HT.out),m5⟩
  case stop=>rintro cc pre W hpre ⟨rfl,⟨x,hx,hxb⟩,⟨a,b,d,i0⟩,i1,i5⟩ hd;have hT:=GL H6.out (hpre.subset hx) hxb;gi_wp2;refine⟨by simp,.inl ⟨_,_,D,lR hd,?_⟩⟩;have hA7:Aw (fun k=>k=w5.heap.size) W (W.putObj w5.heap.size (.deferred J)):=(cY _ _).put _ D;have m4:=hA7.keep i0 (by rw[qJ];omega);have m3:=hA7.keep i1 (by rw[qJ];omega);have DH:=bT i0;have m5:=gJ i5 hA7 (fun k hk=>by rw[qJ] at hk;omega) (by omega);have hr:=wV (P:=bH) (fn:=Tryz.f375) Tryz.results375;refine⟨_,hr _ _ w.heap.size _ _ _ _ ⟨w.heap.size+1,0,J⟩ (aG aD) _ D D m4 tC D (by kernel_rfl) eM D (bL (i:=0) m3 D),?_⟩;exact⟨a,b,d,aD,D,by rw[hT];rfl,(fun h=>by cases h),m5⟩
abbrev sH:=@ntmps376
abbrev uB:=@func376
def Yu(w:aS)(o:Option Int)(e:aX)(w':aS):Prop:=
 ∃(c:Int) (ok:Bool),e=aJ (aN #[O Y c,aG ok])∧o.isSome=ok∧(ok=aF→o=aE c)∧aV w.heap.size w w'
theorem T9{l:List UInt8}(h0:l≠ [])(h:l.head?≠aE 46∨l.length<2∨3<l.length):qH l=J:=by
 match l with
 | []=>exact absurd D h0
 | [a]=>rfl
 | [p,a]=>
  show(if p=46∧_ then _ else J)=J;rw[bX];rintro⟨h1,_⟩;rcases h with h|h|h
  ·exact h (by rw[h1];rfl)
  ·simp at h
  ·simp at h
 | [p,a,b]=>
  show(if p=46∧_ then _ else J)=J;rw[bX];rintro⟨h1,_⟩;rcases h with h|h|h
  ·exact h (by rw[h1];rfl)
  ·simp at h
  ·simp at h
 |p::a::b::c::l=>rfl
theorem U7(s:ByteArray)(w:aS)(hz:s.size≤1000000)(h:s.size=0∨((sb s).head?≠aE 46∨s.size<2∨3<s.size)):aU bH 376 #[aH s] w (Yu w (qH (sb s))):=by
 by_cases h0:s.size=0
 ·have hG:=yZ w (aI #[O Y 0] 2) (aI #[aG aF] 4);have hT:qH (sb s)=aE 0:=by rw[(lQ s).2 h0];rfl
  have e0:s.toList= []:=by rw[dR];exact(lQ s).2 h0
  have HT:=bK hT;have HG:=bK hG;clear hT h0 h hG;go_enter uB,sH;go_wp2;obtain⟨g0,g1,_,hb⟩:=HG.out;refine bR (oR D _ _ ⟨w.heap.size,0,J⟩ ⟨w.heap.size+1,0,J⟩ (O Y 0) (aG aF) _ _ D D cO D eM D (bL (i:=0) g0 D) (bL (i:=0) g1 D)) D ?_;exact⟨0,aF,D,by rw[HT.out];rfl,(fun _=>HT.out),hb⟩
 ·have hG:=yZ w (aI #[O Y 0] 2) (aI #[aG aD] 4);have h1:=h.resolve_left h0;have hT:qH (sb s)=J:=T9 (fun e=>h0 ((lQ s).1 e)) (by rw[iI];exact h1);have e0:=pZ h0;have Cd:(0:Int)<(s.size:Int):=by omega
  have fF:0<s.size:=by omega
  have HT:=bK hT;have HG:=bK hG;have G5:(sb s).head?=aE s[0]:=by rw[pP];exact yQ s 0 fF
  rw[G5] at h1;clear hT h0 h hG G5;by_cases hm:s[0]=46
  ·have im:(s[0].toNat:Int)=46:=by rw[hm];rfl
   have h2:=h1.resolve_left (fun h=>h (by rw[hm]));clear h1 hm;by_cases h3:s.size<2
   ·have i3:(s.size:Int)<2:=by omega
    clear h2;go_enter uB,sH;go_wp2;obtain⟨g0,g1,_,hb⟩:=HG.out;refine bR (oR D _ _ ⟨w.heap.size,0,J⟩ ⟨w.heap.size+1,0,J⟩ (O Y 0) (aG aD) _ _ D D cO D eM D (bL (i:=0) g0 D) (bL (i:=0) g1 D)) D ?_;exact⟨0,aD,D,by rw[HT.out];rfl,(fun h=>by cases h),hb⟩
   ·have i3: ¬(s.size:Int)<2:=by omega
    have i4:(3:Int)<(s.size:Int):=by omega
    clear h2;go_enter uB,sH;go_wp2;obtain⟨g0,g1,_,hb⟩:=HG.out;refine bR (oR D _ _ ⟨w.heap.size,0,J⟩ ⟨w.heap.size+1,0,J⟩ (O Y 0) (aG aD) _ _ D D cO D eM D (bL (i:=0) g0 D) (bL (i:=0) g1 D)) D ?_;exact⟨0,aD,D,by rw[HT.out];rfl,(fun h=>by cases h),hb⟩
  ·have im: ¬(s[0].toNat:Int)=46:=by
    intro e;exact hm (UInt8.toNat_inj.1 (by rw[show(46:UInt8).toNat=46 from D];omega))
   clear h1 hm;go_enter uB,sH;go_wp2;obtain⟨g0,g1,_,hb⟩:=HG.out;refine bR (oR D _ _ ⟨w.heap.size,0,J⟩ ⟨w.heap.size+1,0,J⟩ (O Y 0) (aG aD) _ _ D D cO D eM D (bL (i:=0) g0 D) (bL (i:=0) g1 D)) D ?_;exact⟨0,aD,D,by rw[HT.out];rfl,(fun h=>by cases h),hb⟩
def IB(S:Nat)(w:aS)(pre:List (Int × Bool))(W:aS):Prop:=
 pre= []∧W.heap[S]?=aE (aI #[O Y 0] 2)∧W.heap[S+1]?=aE (aI #[aG aD] 4)∧aV S w W
def XB(S:Nat)(w:aS)(c:Code)(pre:List (Int × Bool))(W:aS):Prop:=
 c= .ret∧∃n ok,pre= [(n,ok)]∧W.heap[S]?=aE (aI #[O Y n] 2)∧W.heap[S+1]?=aE (aI #[aG ok] 4)∧aV S w W
theorem IJ(s:ByteArray)(w:aS)(h:s.size=3)(hd:(sb s).head?=aE 46):aU bH 376 #[aH s] w (Yu w (qH (sb s))):=by
 have fF:0<s.size:=by omega
 have Cd:(0:Int)<(s.size:Int):=by omega
 have G5:(sb s).head?=aE s[0]:=by rw[pP];exact yQ s 0 fF
 have hm:s[0]=46:=by rw[G5] at hd;injection hd
 have im:(s[0].toNat:Int)=46:=by rw[hm];rfl
 have e0:=pZ (s:=s) (by omega);have iz:(s.size:Int)=3:=by omega
 obtain⟨t,ht⟩: ∃t,t=s.extract 1 s.size:=⟨_,D⟩;have hG:=WD w (aI #[O Y 0] 2) (aI #[aG aD] 4) (aI #[aH t] 9);have HG:=bK hG;have HM:=bK hm;have hP:=Fu t ((w.alloc (aI #[O Y 0] 2)).alloc (aI #[aG aD] 4));have HT:=bK ht;have HD:=bK hd;have H:=bK h;clear hG hm G5 ht hd h;refine(rK (n:=9)).1 ?_;have Lk:Fence.wide.round=J:=D;refine lH uB D cM ?_ Lk;simp only[sH,cG,dM,hH,Nat.reduceAdd,Nat.reduceSub,gH,gG,iQ,gR,eF,dS];gi_wp2_with fail;rw[←HT.out];refine⟨cM,(callsIn_wide.2 hP).mono ?_⟩;rintro x w1 ⟨rfl,rfl⟩;gi_wp2_with fail;obtain⟨p0,p1,p2,qJ,hb5⟩:=HG.out;generalize(((w.alloc (aI #[O Y 0] 2)).alloc (aI #[aG aD] 4)).alloc (aI #[aH t] 9))=w5 at*;have Hs:=bK qJ;have DI:sb s= [s[0],s[1],s[2]]:=by have e0:=qF s 0 (by have:=H.out;omega);have e1:=qF s 1 (by have:=H.out;omega);have e2:=qF s 2 (by have:=H.out;omega);rw[iN] at e0;rw[e0,e1,e2,gF (by rw[iI,H.out];exact bM _)]
 have dx:sb t= [s[1],s[2]]:=by rw[HT.out];rw[y8,DI];rfl
 have htz:t.size=2:=by rw[←iI,dx];rfl
 have nB:qH (sb s)=if(kL s[1] s[2]).2=aF then aE (kL s[1] s[2]).1 else J:=by rw[DI];show(if s[0]=46∧(kL s[1] s[2]).2=aF then _ else _)=_;simp only[HM.out,true_and]
 have Am:oG (sb t)= [kL s[1] s[2]]:=by rw[dx];rfl
 obtain⟨y,hy⟩: ∃y,y=kL s[1] s[2]:=⟨_,D⟩;rw[←hy] at nB Am;have HB:=bK nB;have HY:=bK Am;clear qJ HG hP DI dx nB Am hy;have qJ:=Hs.out
 refine vP D (wU func392 (by kernel_rfl) D) (Fl t (w.heap.size+2) _ (by omega)) (fun W hW=>hW.keep p2 (fun hk=>hk)) (fun x=>rfl) (fun k hk=>by rw[hk,qJ];omega) (fun k hk=>by rw[hk,qJ];omega)
  (IB w.heap.size w) (XB w.heap.size w) ?hI ?hIx ?h0 (fun x=> { tmps:= #[aH s,undef,aK (aE ⟨w.heap.size,0,J⟩),aK (aE ⟨w.heap.size+1,0,J⟩),O Y x.1,aG x.2,aG aD,aH s,aG aD,aG aD,aH s,O aP 46,aG aD,aG aD,aH s,O Y 3,aG aD,aG aD,aG aD,aH s,O Y 3,aG aD,aG aD,aG aD,aH s,O Y 3,aG aD,undef,undef,aH s,aH t,.func (.func 392) #[] #[aK (aE ⟨w.heap.size+1+1,0,J⟩)],O Y x.1,aG x.2,undef,undef],defers:= [] }) ?assign ?body ?done ?stop
 case hI=>
  rintro pre A B ⟨rfl,i0,i1,i5⟩ hab;have hn: ∀k,(k=w.heap.size+2∨k=w5.heap.size∨k=w5.heap.size+1)→w.heap.size+2≤k:=fun k hk=>by rw[qJ] at hk;omega
  have hA:=bT i0;exact⟨D,hab.keep i0 (fun hk=>by have:=hn _ hk;omega),hab.keep i1 (fun hk=>by have:=hn _ hk;omega),gJ i5 hab (fun k hk=>by have:=hn _ hk;omega) (by omega)⟩
 case hIx=>
  rintro cc pre A B ⟨rfl,n,ok,rfl,i0,i1,i5⟩ hab;have hn: ∀k,(k=w.heap.size+2∨k=w5.heap.size∨k=w5.heap.size+1)→w.heap.size+2≤k:=fun k hk=>by rw[qJ] at hk;omega
  have hA:=bT i0;exact⟨D,n,ok,D,hab.keep i0 (fun hk=>by have:=hn _ hk;omega),hab.keep i1 (fun hk=>by have:=hn _ hk;omega),gJ i5 hab (fun k hk=>by have:=hn _ hk;omega) (by omega)⟩
 case h0=>exact⟨D,p0,p1,hb5⟩
 case assign=>intro l x W K hK;gi_wp2;exact hK
 case body=>rintro pre x W ⟨rfl,i0,i1,i5⟩ hpre zB;obtain⟨n,ok⟩:=x;have hA:=bT i0;have c0:=bL (i:=0) (v:=O Y 0) i0 D;have f0:=bZ (i:=0) i0;have d0:=bL (i:=0) (v:=aG aD) i1 D;have e0:=bZ (i:=0) i1;have k0:=cN (i:=0) i0 (O Y n);have hA1:Aw (fun k=>k=w.heap.size) W (W.setCell ⟨w.heap.size,0,J⟩ (O Y n)):=(cY _ _).set _ D;have k1:=hA1.keep i1 (by omega);have k2:=cN (i:=0) k1 (aG ok);have hA2:Aw (fun k=>k=w.heap.size+1) _ ((W.setCell ⟨w.heap.size,0,J⟩ (O Y n)).setCell ⟨w.heap.size+1,0,J⟩ (aG ok)):=(cY _ _).set _ D;have k3:=hA2.keep k0 (by omega);have hA3:Aw (fun k=>k=w.heap.size∨k=w.heap.size+1) W _:=(hA1.mono fun k hk=> .inl hk).trans (hA2.mono fun k hk=> .inr hk);have k5:=gJ i5 hA3 (fun k hk=>by omega) (by omega);have hfin:XB w.heap.size w .ret [(n,ok)] _:=⟨D,n,ok,D,k3,k2,k5⟩;have HF:=bK hfin;have HA3:=bK hA3;clear hfin hA3 hA2 hA1 k0 k1 k2 k3 k5 i0 i1 i5;gi_wp2;exact⟨HA3.out.keeps fun k hk hu=>by rw[qJ] at hk;omega,HF.out⟩
 case done=>rintro W ⟨hpre,_⟩ hd;rw[HY.out] at hpre;cases hpre
 case stop=>
  rintro cc pre W hpre ⟨rfl,n,ok,rfl,i0,i1,i5⟩ hd;have qd:y=(n,ok):=by rw[HY.out] at hpre;exact(List.mem_singleton.1 (hpre.subset cP)).symm
  have nB:=HB.out;rw[qd] at nB;have HV:=bK nB;clear nB qd qJ;gi_wp2;have qJ:=Hs.out;refine⟨by simp,.inl ⟨_,_,D,lR hd,?_⟩⟩;have hA7:Aw (fun k=>k=w5.heap.size) W (W.putObj w5.heap.size (.deferred J)):=(cY _ _).put _ D;have m4:=hA7.keep i0 (by rw[qJ];omega);have m3:=hA7.keep i1 (by rw[qJ];omega);have DH:=bT i0;have m5:=gJ i5 hA7 (fun k hk=>by rw[qJ] at hk;omega) (by omega);have hr:=oR (P:=bH) (fn:=Tryz.f376) Tryz.results376;refine⟨_,hr _ _ ⟨w.heap.size,0,J⟩ ⟨w.heap.size+1,0,J⟩ (O Y n) (aG ok) _ _ D D cO D eM D (bL (i:=0) m4 D) (bL (i:=0) m3 D),?_⟩;refine⟨n,ok,D,?_,?_,m5⟩
  ·rw[HV.out];cases ok<;>rfl
  ·intro h;rw[HV.out,bY h]
theorem EN(s:ByteArray)(w:aS)(h:s.size=2)(hd:(sb s).head?=aE 46):aU bH 376 #[aH s] w (Yu w (qH (sb s))):=by
 have fF:0<s.size:=by omega
 have Cd:(0:Int)<(s.size:Int):=by omega
 have G5:(sb s).head?=aE s[0]:=by rw[pP];exact yQ s 0 fF
 have hm:s[0]=46:=by rw[G5] at hd;injection hd
 have im:(s[0].toNat:Int)=46:=by rw[hm];rfl
 have e0:=pZ (s:=s) (by omega);have iz:(s.size:Int)=2:=by omega
 obtain⟨t,ht⟩: ∃t,t=(s++(ByteArray.mk #[48])).extract 1 (s.size+1):=⟨_,D⟩;have hG:=WD w (aI #[O Y 0] 2) (aI #[aG aD] 4) (aI #[aH t] 9);have HG:=bK hG;have HM:=bK hm;have hP:=Fu t ((w.alloc (aI #[O Y 0] 2)).alloc (aI #[aG aD] 4));have HT:=bK ht;have HD:=bK hd;have H:=bK h;clear hG hm G5 ht hd h;refine(rK (n:=9)).1 ?_;have Lk:Fence.wide.round=J:=D;refine lH uB D cM ?_ Lk;simp only[sH,cG,dM,hH,Nat.reduceAdd,Nat.reduceSub,gH,gG,iQ,gR,eF,dS];gi_wp2_with fail;rw[←HT.out];refine⟨cM,(callsIn_wide.2 hP).mono ?_⟩;rintro x w1 ⟨rfl,rfl⟩;gi_wp2_with fail;obtain⟨p0,p1,p2,qJ,hb5⟩:=HG.out;generalize(((w.alloc (aI #[O Y 0] 2)).alloc (aI #[aG aD] 4)).alloc (aI #[aH t] 9))=w5 at*;have Hs:=bK qJ
 have DI:sb s= [s[0],s[1]]:=by
  have e0:=qF s 0 (by have:=H.out;omega);have e1:=qF s 1 (by have:=H.out;omega)
  skip
  rw[iN] at e0;rw[e0,e1,gF (by rw[iI,H.out];exact bM _)]
 have dx:sb t= [s[1],48]:=by rw[HT.out];rw[mY,show sb (s++(ByteArray.mk #[48]))=sb s++ [48] by simp[sb],DI,cH (by have:=H.out;simp;omega)];rfl
 have htz:t.size=2:=by rw[←iI,dx];rfl
 have nB:qH (sb s)=if(kL s[1] 48).2=aF then aE (kL s[1] 48).1 else J:=by rw[DI];show(if s[0]=46∧(kL s[1] 48).2=aF then _ else _)=_;simp only[HM.out,true_and]
 have Am:oG (sb t)= [kL s[1] 48]:=by rw[dx];rfl
 obtain⟨y,hy⟩: ∃y,y=kL s[1] 48:=⟨_,D⟩;rw[←hy] at nB Am;have HB:=bK nB;have HY:=bK Am;clear qJ HG hP DI dx nB Am hy;have qJ:=Hs.out
 refine vP D (wU func392 (by kernel_rfl) D) (Fl t (w.heap.size+2) _ (by omega)) (fun W hW=>hW.keep p2 (fun hk=>hk)) (fun x=>rfl) (fun k hk=>by rw[hk,qJ];omega) (fun k hk=>by rw[hk,qJ];omega)
  (IB w.heap.size w) (XB w.heap.size w) ?hI ?hIx ?h0 (fun x=> { tmps:= #[aH (s++(ByteArray.mk #[48])),undef,aK (aE ⟨w.heap.size,0,J⟩),aK (aE ⟨w.heap.size+1,0,J⟩),O Y x.1,aG x.2,aG aD,aH s,aG aD,aG aD,aH s,O aP 46,aG aD,aG aD,aH s,O Y 2,aG aD,aG aD,aG aD,aH s,O Y 2,aG aD,aG aD,aG aF,aH s,O Y 2,aG aF,aH s,aH (s++(ByteArray.mk #[48])),aH (s++(ByteArray.mk #[48])),aH t,.func (.func 392) #[] #[aK (aE ⟨w.heap.size+1+1,0,J⟩)],O Y x.1,aG x.2,undef,undef],defers:= [] }) ?assign ?body ?done ?stop
 case hI=>
  rintro pre A B ⟨rfl,i0,i1,i5⟩ hab;have hn: ∀k,(k=w.heap.size+2∨k=w5.heap.size∨k=w5.heap.size+1)→w.heap.size+2≤k:=fun k hk=>by rw[qJ] at hk;omega
  have hA:=bT i0;exact⟨D,hab.keep i0 (fun hk=>by have:=hn _ hk;omega),hab.keep i1 (fun hk=>by have:=hn _ hk;omega),gJ i5 hab (fun k hk=>by have:=hn _ hk;omega) (by omega)⟩
 case hIx=>
  rintro cc pre A B ⟨rfl,n,ok,rfl,i0,i1,i5⟩ hab;have hn: ∀k,(k=w.heap.size+2∨k=w5.heap.size∨k=w5.heap.size+1)→w.heap.size+2≤k:=fun k hk=>by rw[qJ] at hk;omega
  have hA:=bT i0;exact⟨D,n,ok,D,hab.keep i0 (fun hk=>by have:=hn _ hk;omega),hab.keep i1 (fun hk=>by have:=hn _ hk;omega),gJ i5 hab (fun k hk=>by have:=hn _ hk;omega) (by omega)⟩
 case h0=>exact⟨D,p0,p1,hb5⟩
 case assign=>intro l x W K hK;gi_wp2;exact hK
 case body=>rintro pre x W ⟨rfl,i0,i1,i5⟩ hpre zB;obtain⟨n,ok⟩:=x;have hA:=bT i0;have c0:=bL (i:=0) (v:=O Y 0) i0 D;have f0:=bZ (i:=0) i0;have d0:=bL (i:=0) (v:=aG aD) i1 D;have e0:=bZ (i:=0) i1;have k0:=cN (i:=0) i0 (O Y n);have hA1:Aw (fun k=>k=w.heap.size) W (W.setCell ⟨w.heap.size,0,J⟩ (O Y n)):=(cY _ _).set _ D;have k1:=hA1.keep i1 (by omega);have k2:=cN (i:=0) k1 (aG ok);have hA2:Aw (fun k=>k=w.heap.size+1) _ ((W.setCell ⟨w.heap.size,0,J⟩ (O Y n)).setCell ⟨w.heap.size+1,0,J⟩ (aG ok)):=(cY _ _).set _ D;have k3:=hA2.keep k0 (by omega);have hA3:Aw (fun k=>k=w.heap.size∨k=w.heap.size+1) W _:=(hA1.mono fun k hk=> .inl hk).trans (hA2.mono fun k hk=> .inr hk);have k5:=gJ i5 hA3 (fun k hk=>by omega) (by omega);have hfin:XB w.heap.size w .ret [(n,ok)] _:=⟨D,n,ok,D,k3,k2,k5⟩;have HF:=bK hfin;have HA3:=bK hA3;clear hfin hA3 hA2 hA1 k0 k1 k2 k3 k5 i0 i1 i5;gi_wp2;exact⟨HA3.out.keeps fun k hk hu=>by rw[qJ] at hk;omega,HF.out⟩
 case done=>rintro W ⟨hpre,_⟩ hd;rw[HY.out] at hpre;cases hpre
 case stop=>
  rintro cc pre W hpre ⟨rfl,n,ok,rfl,i0,i1,i5⟩ hd;have qd:y=(n,ok):=by rw[HY.out] at hpre;exact(List.mem_singleton.1 (hpre.subset cP)).symm
  have nB:=HB.out;rw[qd] at nB;have HV:=bK nB;clear nB qd qJ;gi_wp2;have qJ:=Hs.out;refine⟨by simp,.inl ⟨_,_,D,lR hd,?_⟩⟩;have hA7:Aw (fun k=>k=w5.heap.size) W (W.putObj w5.heap.size (.deferred J)):=(cY _ _).put _ D;have m4:=hA7.keep i0 (by rw[qJ];omega);have m3:=hA7.keep i1 (by rw[qJ];omega);have DH:=bT i0;have m5:=gJ i5 hA7 (fun k hk=>by rw[qJ] at hk;omega) (by omega);have hr:=oR (P:=bH) (fn:=Tryz.f376) Tryz.results376;refine⟨_,hr _ _ ⟨w.heap.size,0,J⟩ ⟨w.heap.size+1,0,J⟩ (O Y n) (aG ok) _ _ D D cO D eM D (bL (i:=0) m4 D) (bL (i:=0) m3 D),?_⟩;refine⟨n,ok,D,?_,?_,m5⟩
  ·rw[HV.out];cases ok<;>rfl
  ·intro h;rw[HV.out,bY h]
theorem Jo(s:ByteArray)(w:aS)(hz:s.size≤1000000):aU bH 376 #[aH s] w (Yu w (qH (sb s))):=by
 by_cases h:s.size=0∨((sb s).head?≠aE 46∨s.size<2∨3<s.size)
 ·exact U7 s w hz h
 ·have hd:(sb s).head?=aE 46:=Decidable.not_not.1 fun e=>h (.inr (.inl e));by_cases h2:s.size=2
  ·exact EN s w h2 hd
  ·exact IJ s w (by omega) hd
end
end Go.Proofs.YtfoabhdppkjmbaaGreat
