import Derived.Test.YtfoabhdppkjmbaaGreatKZ6
import Derived.Test.YtfoabhdppkjmbaaGreatKZ15
import Derived.Test.YtfoabhdppkjmbaaGreatKZ16
import Derived.Laws.RangeString
import Derived.Shelf.Strings.Search1
import Derived.Laws.BitsAllLaws
import Derived.ArgAppend
import Derived.Lib.ConvBytes
set_option linter.unusedSimpArgs false
set_option linter.unusedVariables false
set_option maxHeartbeats 4000000
set_option maxRecDepth 20000
namespace Go.Proofs.YtfoabhdppkjmbaaGreat
open Bool renaming false→aD,true→aF
open Go renaming Addr→aW,Calls→aU,Ending→aX,TypeId→aY,Value→aT,World→aS,maxLen→bB,typeInfo→bF
open Go.Ending renaming returned→aJ
open Go.IntKind renaming i32→aO,i64→Y,u8→aP
open Go.Obj renaming cells→aI
open Go.Proofs.Tryz renaming prog→bH
open Go.RowKit renaming Below→aV,intOf→bE
open Go.Value renaming agg→aM,bool→aG,int→O,pointer→aK,slice→aL,string→aH,tuple→aN
open Option renaming none→J,some→aE
open Go.Proofs.Tryz
namespace NumLaw
end NumLaw
section
open Go.RowKit NumLaw Go.Shelf
attribute [local go_sem] Addr.add_mid
theorem GP(c:UInt8)(w:aS):aU bH 314 #[O aO (c.toNat:Int)] w fun e w'=>e=aJ (aG (Fo c))∧w=w':=by
 have fF:=c.toNat_lt;by_cases i0:(65:Int)≤(c.toNat:Int)<;>by_cases i1:(c.toNat:Int)≤90<;>by_cases i2:(48:Int)≤(c.toNat:Int)<;>by_cases i3:(c.toNat:Int)≤57<;>first|(exfalso;omega)|skip
 all_goals go_enter func314,ntmps314;go_wp2;go_ret;exact⟨by congr 2;unfold Fo;simp;omega,D⟩
theorem EO(c:UInt8):Ni c=(decide (32≤c.toNat∧c.toNat≤126) && !(decide (c.toNat=33)||decide (c.toNat=36)||decide (c.toNat=42)||decide (c.toNat=92)||decide (c.toNat=94)||decide (c.toNat=126))):=by
 have h: ∀k:UInt8,(c==k)=decide (c.toNat=k.toNat):=fun k=>by
  by_cases e:c=k
  ·subst e;simp
  ·have: ¬c.toNat=k.toNat:=fun h=>e (UInt8.toNat_inj.1 h);simp[e,this]
 unfold Ni;rw[h,h,h,h,h,h];rfl
theorem Uw(c:UInt8)(w:aS):aU bH 271 #[O aO (c.toNat:Int)] w fun e w'=>e=aJ (aG (Ni c))∧w=w':=by
 have fF:=c.toNat_lt;by_cases i0:(c.toNat:Int)=33<;>by_cases i1:(c.toNat:Int)=36<;>by_cases i2:(c.toNat:Int)=42<;>by_cases i3:(c.toNat:Int)=92<;>by_cases i4:(c.toNat:Int)=94<;>by_cases i5:(c.toNat:Int)=126<;>by_cases i6:(32:Int)≤(c.toNat:Int)<;>by_cases i7:(c.toNat:Int)≤126<;>first|(exfalso;omega)|skip
 all_goals go_enter func271,ntmps271;go_wp2;go_ret;exact⟨by congr 2;rw[EO];simp;omega,D⟩
theorem CK(c:UInt8)(w:aS):aU bH 315 #[O aO (c.toNat:Int)] w fun e w'=>e=aJ (aN #[O aP (((Gx c).getD 0:Nat):Int),aG (Gx c).isSome])∧w=w':=by
 have fF:=c.toNat_lt;by_cases i0:(48:Int)≤(c.toNat:Int)<;>by_cases i1:(c.toNat:Int)≤57<;>by_cases i2:(65:Int)≤(c.toNat:Int)<;>by_cases i3:(c.toNat:Int)≤70<;>by_cases i4:(97:Int)≤(c.toNat:Int)<;>by_cases i5:(c.toNat:Int)≤102<;>first|(exfalso;omega)|skip
 all_goals go_enter func315,ntmps315;go_wp2;go_ret2;exact⟨by unfold Gx;repeat' split<;>first|(exfalso;omega)|(simp;omega)|simp,D⟩
abbrev iS:=@Below.grown
abbrev lK:=@Exit.noGoto_ret
theorem bd:Lays.n217 bH ⟨fun x=>if x=217 then 312 else 369,fun x=>if x=3 then 3 else if x=5 then 5 else 9,fun x=>x⟩:= {
 mixed:=by kernel_rfl
 f217:=by kernel_rfl
 f266:=by kernel_rfl
 t3:=by kernel_rfl
 a3:=fun _=>by kernel_rfl
 z3:=fun _=>by kernel_rfl
 v3:=fun _=>by kernel_rfl
 t5:=by kernel_rfl
 a5:=fun _=>by kernel_rfl
 z5:=fun _=>by kernel_rfl
 v5:=fun _=>by kernel_rfl
 t9:=by kernel_rfl
 a9:=fun _=>by kernel_rfl
 z9:=fun _=>by kernel_rfl
 v9:=fun _=>by kernel_rfl }
theorem Yv(s:ByteArray)(k:Int)(c:UInt8)(hk:k=(c.toNat:Int))(w:aS):aU bH 312 #[aH s,O aP k] w fun e w'=>e=aJ (O Y (Lib.indexByte (sb s) c))∧w=w':=by
 subst hk;refine(Any.stringslite_IndexByte bd s (c.toNat:Int) w).mono ?_;rintro e w' ⟨rfl,rfl⟩;exact⟨by simp[sb],D⟩
theorem TU(s:ByteArray)(k:Int)(c:UInt8)(hk:k=(c.toNat:Int))(w:aS):aU bH 272 #[aH s,O aP k] w fun e w'=>e=aJ (O Y (Lib.indexByte (sb s) c))∧w=w':=by
 have HX:=bK (Yv s k c hk w);clear hk;go_enter func272,ntmps272;go_wp2_with fail;go_fit HX.out;rintro e w' ⟨rfl,rfl⟩;clear HX;go_wp2;go_ret;exact⟨D,D⟩
theorem SV(s:ByteArray)(w:aS):aU bH 370 #[aH s,aH ⟨#[44]⟩] w fun e w'=>e=aJ (O Y (Lib.indexByte (sb s) 44))∧w=w':=by
 have HX:=bK (Yv s 44 44 D w);by_cases h:sb s= [44]
 ·have t1:([44]==s.toList)=aF:=by rw[dR];exact beq_iff_eq.2 h.symm
  have HR:=bK (show Lib.indexByte (sb s) 44=0 by rw[h];rfl);clear h HX;go_enter func370,ntmps370;go_wp2;go_ret;exact⟨by rw[HR.out];rfl,D⟩
 ·have t1:([44]==s.toList)=aD:=by
   rw[dR];cases e:([44]==s.data.toList)
   ·rfl
   ·exact absurd (beq_iff_eq.1 e).symm h
  clear h;go_enter func370,ntmps370;go_wp2_with fail;go_fit HX.out;rintro e w' ⟨rfl,rfl⟩;clear HX;go_wp2;go_ret;exact⟨D,D⟩
def Nc(s:ByteArray):Nat:=(sb s).findIdx (· ==44)
theorem EK(s:ByteArray)(hz:s.size≤1000)(w:aS):aU bH 316 #[aH s,aH ⟨#[44]⟩] w fun e w'=>
  (e=aJ (.tuple (if Nc s<s.size then #[aH (s.extract 0 (Nc s)),aH (s.extract (Nc s+1) s.size),aG aF] else #[aH s,aH ⟨#[]⟩,aG aD])))∧aV w.heap.size w w':=by
 have hX:=SV s w;have hl:=Oj 44 (sb s);rw[iI] at hl;have hc:Nc s=(sb s).findIdx (· ==44):=D;rw[←hc] at hl;rw[hl] at hX;by_cases h:Nc s<s.size
 ·rw[bY h] at hX ⊢;obtain⟨i,hi⟩: ∃i,i=Nc s:=⟨_,D⟩;rw[←hi] at hX h ⊢;have HX:=bK hX;clear hX hl hc hi;have c1:(0:Int)≤(i:Int):=by omega
  have c2:(i:Int)≤(s.size:Int):=by omega
  have c3:(0:Int)≤(i:Int)+1:=by omega
  have c4:(i:Int)+1≤(s.size:Int):=by omega
  have c5:((i:Int)+1).toNat=i+1:=by omega
  have c6:IntKind.i64.wrap ((i:Int)+1)=(i:Int)+1:=by rw[fA];omega
  clear hz;go_enter func316,ntmps316;go_wp2_with fail;go_fit HX.out;rintro e w' ⟨rfl,rfl⟩;clear HX;go_wp2_with fail;go_quiet (fail);go_wp2;go_ret3;exact⟨D,qS (bP _ _) _⟩
 ·rw[bX h] at hX ⊢;have HX:=bK hX;clear hX hl hc h;go_enter func316,ntmps316;go_wp2_with fail;go_fit HX.out;rintro e w' ⟨rfl,rfl⟩;clear HX;go_wp2;go_ret3;exact⟨D,bP _ _⟩
theorem JO(s:ByteArray)(hz:s.size≤1000)(w:aS):aU bH 276 #[aH s,aH ⟨#[44]⟩] w fun e w'=>
  (e=aJ (.tuple (if Nc s<s.size then #[aH (s.extract 0 (Nc s)),aH (s.extract (Nc s+1) s.size),aG aF] else #[aH s,aH ⟨#[]⟩,aG aD])))∧aV w.heap.size w w':=by
 have hX:=EK s hz w;by_cases h:Nc s<s.size
 ·rw[bY h] at hX ⊢;have HX:=bK hX;clear hX h;go_enter func276,ntmps276;go_wp2_with fail;go_fit HX.out;rintro e w' ⟨rfl,hb⟩;clear HX;go_wp2;go_ret3;exact⟨D,hb⟩
 ·rw[bX h] at hX ⊢;have HX:=bK hX;clear hX h;go_enter func276,ntmps276;go_wp2_with fail;go_fit HX.out;rintro e w' ⟨rfl,hb⟩;clear HX;go_wp2;go_ret3;exact⟨D,hb⟩
def KD:aT→Nat
 |aH s=>s.size
 |_=>0
theorem ba(s:ByteArray):K9 (sb s)=s:=by cases s;rfl
theorem Un(l:List UInt8):sb (K9 l)=l:=rfl
theorem cz{s:ByteArray}(h: ¬Nc s<s.size):(vN [] (sb s)).map K9= [s]:=by
 rw[Yt (sb s) [] (by rw[iI];exact h)];simp[ba]
theorem YQ{s:ByteArray}(h:Nc s<s.size):(vN [] (sb s)).map K9=s.extract 0 (Nc s)::(vN [] (sb (s.extract (Nc s+1) s.size))).map K9:=by
 rw[Xz (sb s) [] (by rw[iI];exact h),y8];simp only[eE,eF];congr 1;refine Ul ?_;rw[Un,mY,iN];rfl
theorem SO(s:ByteArray)(hz:s.size≤1000)(w:aS):aU bH 233 #[aH s] w (Xn w ((vN [] (sb s)).map K9)):=by
 obtain⟨i0,hi⟩:=eW Jt;have HI:=bK hi;have HZ:=bK hz;obtain⟨L,hL⟩: ∃L,L=(vN [] (sb s)).map K9:=⟨_,D⟩;rw[←hL];have HL:=bK hL;clear hi hz hL;go_enter func233,ntmps233;go_wp2;go_step3;go_wp2;go_step3;go_wp2;go_loopw [0,3] (fun sv o wr=> ∃(t:ByteArray) (X:List ByteArray) (n3 c3:Nat) (A3:Option aW),sv=aH t∧o=aL A3 n3 c3∧Hid (L=X++(vN [] (sb t)).map K9∧X.length=n3∧t.size+n3≤s.size)∧aV w.heap.size w wr∧wr.ownsRow w.heap.size 9 1 (aL A3 n3 c3) n3 (nY X)) (fun sv _ _=>KD sv);case atStart=>exact⟨s,[],0,0,J,D,D,bK ⟨HL.out,D,by omega⟩,bP _ _,dF _ _ _ _⟩
 case round=>
  obtain⟨t,X,n3,c3,A3,rfl,rfl,HT,hb,mM⟩:=hrel;have EI:n3≤1000:=by have:=HT.out.2.2;have:=HZ.out;omega
  have hC:=JO t (by have:=HT.out.2.2;have:=HZ.out;omega) wr;by_cases h:Nc t<t.size
  ·rw[bY h] at hC;have hcut:=YQ h;have iJ:(t.extract (Nc t+1) t.size).size=t.size-(Nc t+1):=by rw[eH];omega
   obtain⟨one,h1⟩: ∃one,one=t.extract 0 (Nc t):=⟨_,D⟩;obtain⟨rest,h2⟩: ∃rest,rest=t.extract (Nc t+1) t.size:=⟨_,D⟩;rw[←h1,←h2] at hC hcut;rw[←h2] at iJ;have HQ:=bK (bO hcut (bO iJ h));have HC:=bK hC;clear hC hcut iJ h h1 h2;go_wp2_with fail;go_fit HC.out;rintro e w1 ⟨rfl,hb1⟩;have vD:=jK mM hb1 (bM _);have hb2:=eI hb hb1;have hbn:aV w1.heap.size w1 (w1.alloc (aI #[aH one] 9)):=(bP _ _).alloc (bM _) _;have hrd:Rd _ _ 1 _ 1 1 [Value.string one]:=yX (sQ (size:=1) (e:=9) w1 [[Value.string one]] #[aH one] D (by intro r hr;rw[List.mem_singleton.1 hr];rfl) (by simp[bB]) 1 D) (by omega);have hb4:=eI hb2 hbn;have rA:=jK vD hbn (bM _);clear HC hb1 mM hb vD hbn;go_wp2_with(at_builtin;refine rP ?_);generalize(w1.alloc (aI #[aH one] 9))=w4 at*;refine eL (iY (base:=w.heap.size) (n:=n3) pL HI.out D (by omega) rA D hrd D (by simp[Value.oneCell']) (k:=n3+1) D (show nY X++ [Value.string one]=nY (X++ [one]) by simp[nY]) (by unfold bB;omega) (by omega) hb4.size ?_);intro A5 c5 w5 uQ hgr zE;have hb5:=iS hb4 hgr hb4.size (fun j hj=>(eU rA hj).1);clear hgr zE rA hrd hb4 hb2;go_wp2;go_roundw;case rel=>exact⟨rest,X++ [one],n3+1,c5,A5,D,D,bK ⟨by rw[HT.out.1,HQ.out.1];simp,by rw[cZ,HT.out.2.1];rfl,by have:=HQ.out.2.1;have:=HQ.out.2.2;have:=HT.out.2.2;omega⟩,hb5,uQ⟩
   case measure=>have:=HQ.out.2.1;have:=HQ.out.2.2;simp only[KD];omega
  ·rw[bX h] at hC;have hcut:=cz h;have HQ:=bK hcut;have HC:=bK hC;clear hC hcut h;go_wp2_with fail;go_fit HC.out;rintro e w1 ⟨rfl,hb1⟩;have vD:=jK mM hb1 (bM _);have hb2:=eI hb hb1;have hbn:aV w1.heap.size w1 (w1.alloc (aI #[aH t] 9)):=(bP _ _).alloc (bM _) _;have hrd:Rd _ _ 1 _ 1 1 [Value.string t]:=yX (sQ (size:=1) (e:=9) w1 [[Value.string t]] #[aH t] D (by intro r hr;rw[List.mem_singleton.1 hr];rfl) (by simp[bB]) 1 D) (by omega);have hb4:=eI hb2 hbn;have rA:=jK vD hbn (bM _);clear HC hb1 mM hb vD hbn;go_wp2_with(at_builtin;refine rP ?_);generalize(w1.alloc (aI #[aH t] 9))=w4 at*;refine eL (iY (base:=w.heap.size) (n:=n3) pL HI.out D (by omega) rA D hrd D (by simp[Value.oneCell']) (k:=n3+1) D (show nY X++ [Value.string t]=nY (X++ [t]) by simp[nY]) (by unfold bB;omega) (by omega) hb4.size ?_);intro A5 c5 w5 uQ hgr zE;have hb5:=iS hb4 hgr hb4.size (fun j hj=>(eU rA hj).1);have hfin:L=X++ [t]:=by rw[HT.out.1,HQ.out]
   have hln:L.length=n3+1:=by rw[hfin,cZ,HT.out.2.1];rfl
   rw[←hfin] at uQ;have HF:=bK (show Xn w L (aJ (aL A5 (n3+1) c5)) w5 from⟨A5,n3+1,c5,D,uQ,hln,hb5⟩);clear hgr zE rA hrd hb4 hb2 hfin hln uQ hb5 HT HQ;go_wp2
   (try simp only[lK])
   go_ret;exact HF.out
end
section
open Go.RowKit NumLaw
attribute [local go_sem] Addr.add_mid
theorem Es{s:ByteArray}{k:Nat}(h:k<s.size):(sb s).take (k+1)=(sb s).take k++ [s[k]]:=by
 have e:=yQ s k h;rw[List.take_add_one,e];rfl
theorem CH(s:ByteArray)(hz:s.size≤1000000)(w:aS):aU bH 275 #[aH s] w fun e w'=>e=aJ (O aP (I0 (sb s):Int))∧w=w':=by
 obtain⟨n,hn⟩: ∃n,n=s.size:=⟨_,D⟩;have HN:=bK hn;go_enter func275,ntmps275;go_wp2;go_loopw [3,7] (fun c i wr=>wr=w∧∃k:Nat,k≤s.size∧i=O Y (k:Int)∧c=O aP ((I0 ((sb s).take k):Nat):Int)) (fun _ i _=>s.size-(bE i).toNat);case atStart=>exact⟨D,0,by omega,D,by simp[I0]⟩
 case round=>
  obtain⟨rfl,k,hk,rfl,rfl⟩:=hrel;by_cases h:k<s.size
  ·have h':(k:Int)<(s.size:Int):=by omega
   have hx:=Es h;have hX:=Zh ((sb s).take k) s[k];rw[←hx] at hX;have fF:=X1 ((sb s).take k);have Lo:=X1 ((sb s).take (k+1));obtain⟨a,ha⟩: ∃a,a=I0 ((sb s).take k):=⟨_,D⟩;rw[←ha] at hX fF ⊢;have HX:=bK hX;clear hX hx ha hn;have hxo:=u8_xor_nat a s[k].toNat fF s[k].toNat_lt;go_wp2;go_roundw;case rel=>exact⟨by trivial,k+1,by omega,by go_num,by rw[HX.out]⟩
   case measure=>simp[bE];omega
  ·have h': ¬(k:Int)<(s.size:Int):=by omega
   obtain rfl:k=s.size:=by omega
   have he:(sb s).take s.size=sb s:=cH (by rw[iI];exact bM _);rw[he];clear he;go_wp2;go_ret;exact⟨D,D⟩
theorem x8(w:aS)(s:ByteArray)(p:Nat):aV w.heap.size w (w.iter s p):=(bP _ _).alloc (bM _) _
theorem RU(s:ByteArray)(ha: ∀c∈sb s,c.toNat<128)(w:aS):aU bH 313 #[aH s,.func (.func 314) #[] #[]] w fun e w'=>e=aJ (aG ((sb s).all Fo))∧aV w.heap.size w w':=by
 have HA:=bK ha;clear ha;go_enter func313,ntmps313;go_wp2;go_loopw [] (fun wr=> ∃p:Nat,wr=w.iter s p∧p≤s.size∧Hid (((sb s).take p).all Fo=aF)) (fun wr=>s.size-wr.iterPos w.heap.size);case atStart=>exact⟨0,D,by omega,bK D⟩
 case round=>
  obtain⟨p,rfl,hp,HS⟩:=hrel;by_cases h:p<s.size
  ·have G6:s[p].toNat<128:=HA.out _ (dD (yQ s p h));have Tg: ∀ty,(Instr.next (aK (aE ⟨w.heap.size,0,J⟩)) aF ty).run bH (w.iter s p)=_:=fun ty=>run_next_ascii w s p ty h G6;have hx:=Es h;have HX:=bK hx;have hG:=fun w=>GP s[p] w;obtain⟨c,hc⟩: ∃c,c=s[p]:=⟨_,D⟩;rw[←hc] at HX hG Tg;have HC:=bK hc;have HG:=bK hG;clear hx hG hc G6;go_wp2_with fail;go_fit(HG.out _);rintro e w1 ⟨rfl,rfl⟩;clear HG Tg
   cases hs:Fo c with
   |true=>
    have hq:((sb s).take (p+1)).all Fo=aF:=by rw[HX.out,lJ,HS.out];simp[hs]
    have HQ:=bK hq;clear hq;go_wp2;go_roundw;case rel=>exact⟨p+1,D,by omega,HQ⟩
    case measure=>simp;omega
   |false=>
    have hq:(sb s).all Fo=aD:=by rw[←nJ (p+1) (sb s),lJ,HX.out,lJ];simp[hs]
    have HQ:=bK hq;clear hq;have hb:=x8 w s (p+1);go_wp2;go_ret;exact⟨by rw[HQ.out];rfl,hb⟩
  ·have Tg: ∀ty,(Instr.next (aK (aE ⟨w.heap.size,0,J⟩)) aF ty).run bH (w.iter s p)=_:=fun ty=>run_next_end w s p ty h
   have hq:(sb s).all Fo=aF:=by
    have:=HS.out
    rwa[cH (by rw[iI];omega)] at this
   have HQ:=bK hq;have hb:=x8 w s p;clear hq;go_wp2;go_ret;exact⟨by rw[HQ.out];rfl,hb⟩
theorem AR(s:ByteArray)(k:Nat)(ha: ∀c∈sb s,c.toNat<128)(hk:s.size=k)(w:aS):aU bH 273 #[aH s,O Y (k:Int)] w fun e w'=>e=aJ (aG ((sb s).all Fo))∧aV w.heap.size w w':=by
 subst hk;have HX:=bK (RU s ha w);obtain⟨b,hb⟩: ∃b,b=(sb s).all Fo:=⟨_,D⟩;rw[←hb] at HX ⊢;clear ha hb;go_enter func273,ntmps273;go_wp2_with fail;go_fit HX.out;rintro e w1 ⟨rfl,hb1⟩;clear HX;go_wp2;go_ret;exact⟨D,hb1⟩
theorem Mi(s:ByteArray)(ha: ∀c∈sb s,c.toNat<128)(hk:s.size=2)(w:aS):aU bH 274 #[aH s] w fun e w'=>e=aJ (aN #[O aP (((sS (sb s)).getD 0:Nat):Int),aG (sS (sb s)).isSome])∧aV w.heap.size w w':=by
 have HA:=bK ha;have h2:(s.size:Int)=2:=by omega
 have DI:sb s= [s[0],s[1]]:=by have e:=qF s 0 (by omega);rw[iN,qF s 1 (by omega),gF (by rw[iI];omega)] at e;exact e
 have HS:=bK DI;clear ha DI;go_enter func274,ntmps274;go_wp2;go_loopw [4] (fun o wr=> ∃(p a:Nat),wr=w.iter s p∧o=O aP (a:Int)∧Hid ((p=0∧a=0)∨(p=1∧Gx s[0]=aE a)∨(p=2∧sS (sb s)=aE a))) (fun _ wr=>2-wr.iterPos w.heap.size);case atStart=>exact⟨0,0,D,D,bK (.inl ⟨D,D⟩)⟩
 case round=>
  obtain⟨p,a,rfl,rfl,HP⟩:=hrel
  have UH:p<2→a<16:=fun h=>by
   rcases HP.out with⟨_,h1⟩|⟨_,h1⟩|⟨h1,_⟩
   ·omega
   ·exact Ye h1
   ·omega
  have hp2:p≤2:=by rcases HP.out with⟨h1,_⟩|⟨h1,_⟩|⟨h1,_⟩<;>omega
  by_cases h:p<2
  ·have CQ:p<s.size:=by omega
   have ha:=UH h;have G6:s[p].toNat<128:=HA.out _ (dD (yQ s p CQ));have Tg: ∀ty,(Instr.next (aK (aE ⟨w.heap.size,0,J⟩)) aF ty).run bH (w.iter s p)=_:=fun ty=>run_next_ascii w s p ty CQ G6;have hG:=fun w=>CK s[p] w
   cases hv:Gx s[p] with
   |none=>
    have hu:sS (sb s)=J:=by
     rw[HS.out];rcases(by omega:p=0∨p=1) with rfl|rfl
     ·simp[sS,hv]
     ·have:Gx s[1]=J:=hv;unfold sS;cases Gx s[0]<;>simp[this]
    rw[hv] at hG;simp only[Option.getD_none,Option.isSome_none] at hG;have HG:=bK hG;have HU:=bK hu;clear hG G6 hv hu HS HA HP UH;generalize s[p].toNat=x at*;go_wp2_with fail;go_fit(HG.out _);rintro e w1 ⟨rfl,rfl⟩;have hb:=x8 w s (p+1);clear HG Tg;go_wp2;go_ret2;exact⟨by rw[HU.out];rfl,hb⟩
   |some d=>
    have hd:=Ye hv;rw[hv] at hG;simp only[lT,kO] at hG;have HG:=bK hG
    have hq:Hid ((p+1=0∧16*a+d=0)∨(p+1=1∧Gx s[0]=aE (16*a+d))∨(p+1=2∧sS (sb s)=aE (16*a+d))):=bK (by
     rcases HP.out with⟨h1,h2⟩|⟨h1,h2⟩|⟨h1,_⟩
     ·subst h1;subst h2;right;left;exact⟨D,by rw[hv];simp⟩
     ·subst h1;right;right;refine⟨D,?_⟩;rw[HS.out];simp only[sS,h2];rw[hv]
     ·omega)
    clear hG G6 hv HS HA HP UH;generalize s[p].toNat=x at*;go_wp2_with fail;go_fit(HG.out _);rintro e w1 ⟨rfl,rfl⟩;clear HG Tg;have hor:bits .or aP ((a:Int)*16) (d:Int)=((16*a+d:Nat):Int):=by rw[show(a:Int)*16=((a*16:Nat):Int) by omega,u8_or_nat (a*16) d (by omega) (by omega)];have:=Nat.shiftLeft_add_eq_or_of_lt (i:=4) (b:=d) (by omega) a;rw[Nat.shiftLeft_eq] at this;rw[show a*16=a*2 ^ 4 by omega,←this];omega
    have HOR:=bK hor;clear hor;go_wp2;go_roundw;case rel=>exact⟨p+1,16*a+d,D,by rw[HOR.out],hq⟩
    case measure=>simp;omega
  ·obtain rfl:p=2:=by omega
   have Tg: ∀ty,(Instr.next (aK (aE ⟨w.heap.size,0,J⟩)) aF ty).run bH (w.iter s 2)=_:=fun ty=>run_next_end w s 2 ty (by omega);have hu:sS (sb s)=aE a:=by rcases HP.out with⟨h1,_⟩|⟨h1,_⟩|⟨_,h1⟩<;>first|omega|exact h1
   have HU:=bK hu;have hb:=x8 w s 2;clear hu HP HS HA UH;go_wp2;go_ret2;exact⟨by rw[HU.out];rfl,hb⟩
abbrev vK:=@ntmps231
abbrev wO:=@func231
theorem Fx{s:ByteArray}(h: ∀c∈sb s,c.toNat<128)(a b:Nat): ∀c∈sb (s.extract a b),c.toNat<128:=by
 intro c hc;rw[mY] at hc;exact h c (mD (List.mem_of_mem_drop hc))
theorem Ww(s:ByteArray)(ha: ∀c∈sb s,c.toNat<128)(hz:s.size≤1000000)(w:aS):aU bH 231 #[aH s] w fun e w'=>e=aJ (aG (yG (sb s)))∧aV w.heap.size w w':=by
 by_cases h8:8≤s.size
 case neg=>
  have hr:yG (sb s)=aD:=by unfold yG;rw[iI,dN h8];rfl
  have i1:(s.size:Int)-3<5:=by omega
  rw[hr];clear hr ha h8;go_enter wO,vK;go_wp2;go_ret;exact⟨D,bP _ _⟩
 obtain⟨n,hn⟩: ∃n,s.size=n+3:=⟨s.size-3,by omega⟩;have e3:(s.size:Int)-3=(n:Int):=by omega
 have i1: ¬(n:Int)<5:=by omega
 have hI:=TU s 42 42 D w;rw[Oj] at hI;rw[iI] at hI;obtain⟨f,hf⟩: ∃f,f=(sb s).findIdx (· ==42):=⟨_,D⟩;rw[←hf] at hI;obtain⟨I,ek⟩: ∃I:Int,I=if f<s.size then(f:Int) else-1:=⟨_,D⟩;rw[←ek] at hI;have HI:=bK hI;have hV:yG (sb s)=(decide (8≤s.size) &&(f==s.size-3) &&((sb s).take 5).all Fo &&(sS ((sb s).drop (s.size-2))).isSome &&(s.size==8||(sb s)[5]?==aE 44)):=by unfold yG;rw[iI,←hf]
 rw[dU h8,Bool.true_and] at hV;by_cases jq:f=n
 case neg=>
  have i2: ¬I=(n:Int):=by rw[ek];split<;>omega
  have hr:yG (sb s)=aD:=by rw[hV,show(f==s.size-3)=aD from by simp;omega];rfl
  rw[hr];clear hr ha h8 hV hI ek hf jq hn;go_enter wO,vK;go_wp2_with fail;go_fit HI.out;rintro e w' ⟨rfl,rfl⟩;clear HI;go_wp2;go_ret;exact⟨D,bP _ _⟩
 have i2:I=(n:Int):=by rw[ek,jq,bY (by omega)]
 have qJ:(s.extract 0 5).size=5:=by rw[eH];omega
 have e5:sb (s.extract 0 5)=(sb s).take 5:=by rw[mY,iN]
 have hS:=fun w=>AR (s.extract 0 5) 5 (Fx ha 0 5) qJ w;rw[e5] at hS;rw[jq,show(n==s.size-3)=aF from by simp;omega,Bool.true_and] at hV;obtain⟨b,hb⟩: ∃b,b=((sb s).take 5).all Fo:=⟨_,D⟩;rw[←hb] at hS hV;have HS:=bK hS;have g1:(0:Int)≤5:=by omega
 have g2:(5:Int)≤(s.size:Int):=by omega
 cases b with
 |false=>
  have hr:yG (sb s)=aD:=by rw[hV];rfl
  rw[hr];clear hr ha h8 hV hI ek hf jq hn hS hb qJ e5;subst i2;go_enter wO,vK;go_wp2_with fail;go_fit HI.out;rintro e w' ⟨rfl,rfl⟩;clear HI;go_wp2_with fail;go_fit(HS.out _);rintro e w' ⟨rfl,hb⟩;clear HS;go_wp2;go_ret;exact⟨D,hb⟩
 |true=>
  have DO:(s.extract (n+1) s.size).size=2:=by rw[eH];omega
  have eu:sb (s.extract (n+1) s.size)=(sb s).drop (s.size-2):=by rw[y8];congr 1;omega
  have hU:=fun w=>Mi (s.extract (n+1) s.size) (Fx ha _ _) DO w;rw[eu] at hU;obtain⟨u,hu⟩: ∃u,u=sS ((sb s).drop (s.size-2)):=⟨_,D⟩;rw[←hu] at hU hV;have HU:=bK hU;have c5:((n:Int)+1).toNat=n+1:=by omega
  have g3:(0:Int)≤(n:Int)+1:=by omega
  have g4:(n:Int)+1≤(s.size:Int):=by omega
  have g5:(5:Int)<(s.size:Int):=by omega
  have g6:5<s.size:=by omega
  have hx:=yQ s 5 g6
  cases rk:u.isSome with
  |false=>
   have hr:yG (sb s)=aD:=by rw[hV,rk];rfl
   rw[hr];rw[rk] at HU;clear hr ha h8 hV hI ek hf jq hn hS hb qJ e5 DO eu hU hu rk hx;subst i2;go_enter wO,vK;go_wp2_with fail;go_fit HI.out;rintro e w' ⟨rfl,rfl⟩;clear HI;go_wp2_with fail;go_fit(HS.out _);rintro e w1 ⟨rfl,hb⟩;clear HS;go_wp2_with fail;go_fit(HU.out _);rintro e w2 ⟨rfl,hb2⟩;have hb3:=eI hb hb2;clear HU hb hb2;go_wp2;go_ret;exact⟨D,hb3⟩
  |true=>
   rw[rk] at HU hV;rw[hx] at hV
   have Y7:yG (sb s)=(decide (n=5)||decide (s[5].toNat=44)):=by
    rw[hV];simp only[Bool.true_and];congr 1
    ·by_cases e:n=5
     ·subst e;rw[dU D];simp;omega
     ·rw[dN e];simp;omega
    ·by_cases e:s[5]=44
     ·rw[e];rfl
     ·have: ¬s[5].toNat=44:=fun h=>e (UInt8.toNat_inj.1 h);rw[dN this];simpa using e
   clear ha h8 hV hI ek hf jq hn hS hb qJ e5 DO eu hU hu rk hx;subst i2;rw[Y7];clear Y7
   have hb5:((n:Int)==5||(s[5].toNat:Int)==44)=(decide (n=5)||decide (s[5].toNat=44)):=by
    congr 1
    ·rw[wH];simp;omega
    ·rw[wH];simp;omega
   have HB:=bK hb5;clear hb5;go_enter wO,vK;go_wp2_with fail;go_fit HI.out;rintro e w' ⟨rfl,rfl⟩;clear HI;go_wp2_with fail;go_fit(HS.out _);rintro e w1 ⟨rfl,hb⟩;clear HS;go_wp2_with fail;go_fit(HU.out _);rintro e w2 ⟨rfl,hb2⟩;have hb3:=eI hb hb2;clear HU hb hb2;go_wp2
   ·go_ret;have h5:n=5:=by omega
    exact⟨by rw[dU h5];rfl,hb3⟩
   ·go_ret;exact⟨by rw[←HB.out];rfl,hb3⟩
theorem Zq(s:ByteArray)(n:Nat)(hn:s.size=n+3)(hs:(sb s)[n]?=aE 42)(ha: ∀c∈sb s,c.toNat<128)(hz:s.size≤1000000)(w:aS):aU bH 232 #[aH s] w fun e w'=>
  e=aJ (.tuple (if Rx (sb s)=aF then #[aH (s.extract 0 n),aG aF] else #[aH ⟨#[]⟩,aG aD]))∧aV w.heap.size w w':=by
 have Ga:n<s.size:=by omega
 have hx:s[n]=42:=by have:=yQ s n Ga;rw[hs] at this;injection this with this;exact this.symm
 have hx2:(s[n].toNat:Int)=42:=by rw[hx];rfl
 have DO:(s.extract (n+1) s.size).size=2:=by rw[eH];omega
 have eu:sb (s.extract (n+1) s.size)=(sb s).drop ((sb s).length-2):=by rw[y8,iI];congr 1;omega
 have hU:=fun w=>Mi (s.extract (n+1) s.size) (Fx ha _ _) DO w;rw[eu] at hU;have eo:sb (s.extract 0 n)=(sb s).take ((sb s).length-3):=by rw[mY,iN,iI];congr 1;omega
 have hO:=fun w=>CH (s.extract 0 n) (by rw[eH];omega) w;rw[eo] at hO;have hV:Rx (sb s)=(sS ((sb s).drop ((sb s).length-2))==aE (I0 ((sb s).take ((sb s).length-3)))):=D;obtain⟨u,hu⟩: ∃u,u=sS ((sb s).drop ((sb s).length-2)):=⟨_,D⟩;obtain⟨x,Y3⟩: ∃x,x=I0 ((sb s).take ((sb s).length-3)):=⟨_,D⟩;rw[←hu] at hU hV;rw[←Y3] at hO hV;rw[hV];have HU:=bK hU;have HO:=bK hO;have e3:(s.size:Int)-3=(n:Int):=by omega
 have i1: ¬(n:Int)<0:=by omega
 have i2:(0:Int)≤(n:Int):=by omega
 have i3:(n:Int)<(s.size:Int):=by omega
 have i4:(n:Int)≤(s.size:Int):=by omega
 have c5:((n:Int)+1).toNat=n+1:=by omega
 have g3:(0:Int)≤(n:Int)+1:=by omega
 have g4:(n:Int)+1≤(s.size:Int):=by omega
 clear hV hu Y3 hU hO eu eo DO hx hs ha hn
 cases u with
 |none=>
  have hr:((J:Option Nat)==aE x)=aD:=D;rw[hr];simp only[Option.getD_none,Option.isSome_none] at HU;clear hr;go_enter func232,ntmps232;go_wp2_with fail;go_fit(HU.out _);rintro e w1 ⟨rfl,hb⟩;clear HU HO;go_wp2;go_ret2;exact⟨D,hb⟩
 |some d=>
  simp only[lT,kO] at HU;by_cases hd:d=x
  ·subst hd;have hr:((aE d:Option Nat)==aE d)=aF:=by simp
   rw[bY hr];clear hr;go_enter func232,ntmps232;go_wp2_with fail;go_fit(HU.out _);rintro e w1 ⟨rfl,hb⟩;clear HU;go_wp2_with fail;go_fit(HO.out _);rintro e w2 ⟨rfl,rfl⟩;clear HO;go_wp2;go_ret2;exact⟨D,hb⟩
  ·have hr: ¬((aE d:Option Nat)==aE x)=aF:=by simpa using hd
   rw[bX hr];have Y6: ¬(d:Int)=(x:Int):=by omega
   clear hr hd;go_enter func232,ntmps232;go_wp2_with fail;go_fit(HU.out _);rintro e w1 ⟨rfl,hb⟩;clear HU;go_wp2_with fail;go_fit(HO.out _);rintro e w2 ⟨rfl,rfl⟩;clear HO;go_wp2;go_ret2;exact⟨D,hb⟩
def Mf(s:ByteArray)(E:Nat × Nat):aT:=aN #[aH (if E.1=0 then s.extract 1 (E.2+1) else⟨#[]⟩),O Y (E.1:Int)]
theorem JP(s:ByteArray)(h1:1≤s.size)(hz:s.size≤1000000)(w:aS):aU bH 230 #[aH s] w fun e w'=>
  e=aJ (Mf s (jW 80 ((sb s).drop 1)))∧w=w':=by
 obtain⟨E,hE⟩: ∃E,E=jW 80 ((sb s).drop 1):=⟨_,D⟩;rw[←hE];have HE:=bK hE;clear hE;go_enter func230,ntmps230;go_wp2;go_loopw [4] (fun i wr=>wr=w∧∃k:Nat,i=O Y (k:Int)∧1≤k∧k≤81∧k≤s.size∧Hid (E=((jW (81-k) ((sb s).drop k)).1,(jW (81-k) ((sb s).drop k)).2+(k-1)))) (fun i _=>81-(bE i).toNat);case atStart=>exact⟨D,1,D,by omega,by omega,h1,bK HE.out⟩
 case round=>
  obtain⟨rfl,k,rfl,EH,aIw,hks,HK⟩:=hrel;by_cases h81:k<81
  case neg=>
   have hk:k=81:=by omega
   have hq:E.1=7:=by rw[HK.out,hk];rfl
   have i1: ¬(k:Int)<81:=by omega
   have HQ:=bK hq;clear hq hk HK HE;go_wp2;go_ret2;exact⟨by unfold Mf;rw[HQ.out,bX (by decide)];rfl,by trivial⟩
  have i1:(k:Int)<81:=by omega
  obtain⟨f,hf⟩: ∃f,81-k=f+1:=⟨80-k,by omega⟩;have Tc:81-(k+1)=f:=by omega
  by_cases fF:k<s.size
  case neg=>
   have hq:E.1=2:=by rw[HK.out,hf,gF (by rw[iI];omega)];rfl
   have i2:(s.size:Int)≤(k:Int):=by omega
   have HQ:=bK hq;clear hq HK HE;go_wp2;go_ret2;exact⟨by unfold Mf;rw[HQ.out,bX (by decide)];rfl,by trivial⟩
  have i2: ¬(s.size:Int)≤(k:Int):=by omega
  have i3:(0:Int)≤(k:Int):=by omega
  have i4:(k:Int)<(s.size:Int):=by omega
  have i5:(1:Int)≤(k:Int):=by omega
  have i6:(k:Int)≤(s.size:Int):=by omega
  have hd:=qF s k fF;have aIx:wrap32 (s[k].toNat:Int)=(s[k].toNat:Int):=by have:=s[k].toNat_lt;unfold wrap32;omega
  have hL:jW (81-k) ((sb s).drop k)=(if s[k]=13 then(0,0) else if s[k]≠42∧Ni s[k]=aD then(3,0) else((jW f ((sb s).drop (k+1))).1,(jW f ((sb s).drop (k+1))).2+1)):=by rw[hf,hd];rfl
  rw[hL] at HK;have hG:=fun w=>Uw s[k] w;obtain⟨c,hc⟩: ∃c,c=s[k]:=⟨_,D⟩;rw[←hc] at HK hG;by_cases h13:c=13
  ·rw[bY h13] at HK;have hq:E=(0,k-1):=by rw[HK.out];simp
   have j1:(s[k].toNat:Int)=13:=by rw[←hc,h13];rfl
   have HQ:=bK hq;clear hq HK HE hG hL hd hc h13;go_wp2;go_ret2;exact⟨by unfold Mf;rw[HQ.out,bY D,show k-1+1=k by omega];rfl,by trivial⟩
  have j1: ¬(s[k].toNat:Int)=13:=by intro e;exact h13 (UInt8.toNat_inj.1 (by rw[hc];simpa using(by omega:s[k].toNat=13)))
  rw[bX h13] at HK;by_cases Gb:c=42
  ·have j2:(s[k].toNat:Int)=42:=by rw[←hc,Gb];rfl
   rw[bX (fun h=>h.1 Gb)] at HK;have hq:E=((jW (81-(k+1)) ((sb s).drop (k+1))).1,(jW (81-(k+1)) ((sb s).drop (k+1))).2+(k+1-1)):=by rw[HK.out,Tc];congr 1;omega
   have HQ:=bK hq;clear hq HK HE hG hL hd hc h13 Gb hf Tc;go_wp2;go_roundw;case rel=>exact⟨by trivial,k+1,by go_num,by omega,by omega,by omega,HQ⟩
   case measure=>simp[bE];omega
  have j2: ¬(s[k].toNat:Int)=42:=by intro e;exact Gb (UInt8.toNat_inj.1 (by rw[hc];simpa using(by omega:s[k].toNat=42)))
  have OD:(c.toNat:Int)=(s[k].toNat:Int):=by rw[hc]
  cases hl:Ni c with
  |true=>
   rw[bX (fun h=>by rw[hl] at h;exact absurd h.2 (by decide))] at HK;have hq:E=((jW (81-(k+1)) ((sb s).drop (k+1))).1,(jW (81-(k+1)) ((sb s).drop (k+1))).2+(k+1-1)):=by rw[HK.out,Tc];congr 1;omega
   have HQ:=bK hq;rw[hl,OD] at hG;have HG:=bK hG;clear hq HK HE hG hL hd hc h13 Gb hf Tc OD hl;go_wp2_with fail;go_fit(HG.out _);rintro e w1 ⟨rfl,rfl⟩;clear HG;go_wp2;go_roundw;case rel=>exact⟨by trivial,k+1,by go_num,by omega,by omega,by omega,HQ⟩
   case measure=>simp[bE];omega
  |false=>
   rw[bY ⟨Gb,hl⟩] at HK;have hq:E.1=3:=by rw[HK.out]
   have HQ:=bK hq;rw[hl,OD] at hG;have HG:=bK hG;clear hq HK HE hG hL hd hc h13 Gb hf Tc OD hl;go_wp2_with fail;go_fit(HG.out _);rintro e w1 ⟨rfl,rfl⟩;clear HG;go_wp2;go_ret2;exact⟨by unfold Mf;rw[HQ.out,bX (by decide)];rfl,by trivial⟩
end
section
open Go.RowKit NumLaw
def rY:List eK:= [⟨1,aD,0,255⟩,⟨1,aD,0,255⟩]
theorem cn:FB rY:=by intro f hf;simp[rY] at hf;subst hf;simp
theorem nz:nR 1 aD=⟨1,aD,0,255⟩:=by simp[nR,nM]
theorem La(w:aS):aU bH 176 #[] w (Qb rY w):=by
 have ha:=fun w=>oS 1 aD w;rw[nz] at ha;have Ha:=bK ha;clear ha;go_enter func176,ntmps176;go_wp2_with fail;go_fit(Ha.out _);rintro e w1 ⟨rfl,hb1⟩;unfold fv;go_wp2_with fail;go_fit(Ha.out _);rintro e w2 ⟨rfl,hb2⟩;unfold fv;have hb:=eI hb1 hb2;go_wp2;go_ret;exact⟨_,2,2,D,by omega,by rw[cL];exact Nd w2 408 rY _ D (by simp[rY,bB]) cn,hb.alloc hb.size _⟩
structure Ed where
 k:Int
 p:List Int
 t:Int
 l:List (List Int)
 d:List Int
 y:Bool
 a1:Int
 a2:Int
 la:Int
 q:List (Int × Int)
def d8:List Int:= [0,0,0,0,0,0,0,0]
def kH:Ed:=⟨0,pz,0,[],d8,aD,0,0,0,[]⟩
def Bg(c i:Int):Nat:=if c=1∧i=7 then 1 else if c=1∧i=53 then 2 else if c=1∧i=4 then 3 else if c=5∧(i=0∨i=1) then 4 else if c=6∧i=138 then 5 else 0
def xZ(c i:Int)(b:List UInt8):Nat:=
 match Bg c i with
 |1=>jM pvtF b
 |2=>nN b
 |3=>jM vU b
 |4=>jM rY b
 |5=>rR b
 |_=>6
def Ex(c i:Int)(b:List UInt8):Ed:=
 match Bg c i with
 |1=> { kH with k:=1,p:=zU b }
 |2=> { kH with k:=2,t:=xB b,l:=yS b }
 |3=> { kH with k:=3,d:=nQ vU b }
 |4=> { kH with k:=4,y:=decide (i=1),a1:=(nQ rY b).getD 0 0,a2:=(nQ rY b).getD 1 0 }
 |5=> { kH with k:=5,la:=Bj b,q:=Cf b }
 |_=>kH
def El(c i:Int)(b:List UInt8):Ed:=if xZ c i b=0 then Ex c i b else kH
def Ay(b:List UInt8):Ed:=if(gE b).err=0 then El (gE b).c (gE b).i (gE b).p else kH
def Be(b:List UInt8):Nat:=if(gE b).err=0 then(gE b).size else 0
def Cx(b:List UInt8):Nat:=if(gE b).err=0 then xZ (gE b).c (gE b).i (gE b).p else(gE b).err
theorem Bb(b:List UInt8):(nQ vU b).length=8:=by
 by_cases h:jM vU b=0
 ·obtain⟨h1,h2,h3⟩:=sU h;have e:nQ vU b=uT vU b:=by unfold nQ;rw[bY h]
  rw[e];exact h3
 ·rw[Uv h];rfl
theorem TP(c i:Int):Bg c i=1∨Bg c i=2∨Bg c i=3∨Bg c i=4∨Bg c i=5∨Bg c i=0:=by unfold Bg;(repeat' split)<;>simp
theorem QD(more:List UInt8):Be more≤more.length:=by
 unfold Be;by_cases h0:(gE more).err=0
 ·rw[bY h0];exact(Ge more h0).2.1
 ·rw[bX h0];omega
structure Nj where
 A:Option aW
 n:Nat
 c:Nat
 A':Option aW
 n':Nat
 c':Nat
def kZ:Nj:=⟨J,0,0,J,0,0⟩
def lB(l:List Int):List aT:=l.map (Value.int Y)
def C6(t:Int)(A:Option aW)(n c:Nat):List aT:= [O Y t,aL A n c]
def Li(y:Bool)(a b:Int):List aT:= [aG y,O Y a,O Y b]
def kC(V:Ed)(a:Nj):List aT:=
 O Y V.k::(lB V.p++(C6 V.t a.A a.n a.c++(lB V.d++(Li V.y V.a1 V.a2++C6 V.la a.A' a.n' a.c'))))
structure UbR(w:aS)(B:Nat)(V:Ed)(a:Nj):Prop where
 s:RdR w B 7 a.A a.n a.c (V.l.map I9)
 q:RdR w B 2 a.A' a.n' a.c' (V.q.map K0)
theorem UbR.up{w w':aS}{B:Nat}{V:Ed}{a:Nj}(h:UbR w B V a)(hb:aV B w w'):UbR w' B V a:=⟨h.s.up hb,h.q.up hb⟩
theorem UbR.more{w:aS}{B B':Nat}{V:Ed}{a:Nj}(h:UbR w B V a)(hB:B≤B'):UbR w B' V a:=⟨h.s.more hB,h.q.more hB⟩
theorem UbR.nil(w:aS)(B:Nat)(V:Ed)(h1:V.l= [])(h2:V.q= []):UbR w B V kZ:=by
 constructor
 ·rw[h1];exact kR w B 7
 ·rw[h2];exact kR w B 2
theorem zS(l:List Int):(lB l).length=l.length:=by simp[lB]
theorem Et(l:List Int): ∀v∈lB l,v.oneCell'=aF:=by
 intro v hv;obtain⟨z,_,rfl⟩:=List.mem_map.1 hv;rfl
theorem X4(V:Ed)(a:Nj): ∀v∈kC V a,v.oneCell'=aF:=by
 intro v hv;unfold kC C6 Li at hv;simp only[fL,mJ,List.not_mem_nil,or_false] at hv;rcases hv with rfl|hv|hv|hv|hv|hv
 ·rfl
 ·exact Et _ v hv
 ·rcases hv with rfl|rfl<;>rfl
 ·exact Et _ v hv
 ·rcases hv with rfl|rfl|rfl<;>rfl
 ·rcases hv with rfl|rfl<;>rfl
section
variable {V:Ed} {a:Nj}
theorem o9(hp:V.p.length=32)(hd:V.d.length=8):(kC V a).length=48:=by simp[kC,lB,C6,Li,hp,hd]
theorem nw(hp:V.p.length=32): ∀j v,(lB V.p)[j]?=aE v→(kC V a)[1+j]?=aE v:=by
 intro j v hv;have hj:j<(lB V.p).length:=(List.getElem?_eq_some_iff.1 hv).1;show(Value.int Y V.k::_)[1+j]?=_;rw[Nat.add_comm,eV,List.getElem?_append_left hj,hv]
theorem mw(hp:V.p.length=32): ∀j v,(C6 V.t a.A a.n a.c)[j]?=aE v→(kC V a)[33+j]?=aE v:=by
 intro j v hv;have hj:j<(C6 V.t a.A a.n a.c).length:=(List.getElem?_eq_some_iff.1 hv).1;have hi:(lB V.p).length=32:=by simp[lB,hp]
 show(Value.int Y V.k::_)[33+j]?=_;rw[show 33+j=(32+j)+1 by omega,eV,dG (by omega),hi,show 32+j-32=j by omega,List.getElem?_append_left hj,hv]
theorem oh(hp:V.p.length=32): ∀j v,(lB V.d)[j]?=aE v→(kC V a)[35+j]?=aE v:=by
 intro j v hv;have hj:j<(lB V.d).length:=(List.getElem?_eq_some_iff.1 hv).1;have hi:(lB V.p).length=32:=by simp[lB,hp]
 have h2:(C6 V.t a.A a.n a.c).length=2:=D;show(Value.int Y V.k::_)[35+j]?=_;rw[show 35+j=(34+j)+1 by omega,eV,dG (by omega),hi,show 34+j-32=2+j by omega,dG (by omega),h2,show 2+j-2=j by omega,List.getElem?_append_left hj,hv]
theorem oo(hp:V.p.length=32)(hd:V.d.length=8): ∀j v,(Li V.y V.a1 V.a2)[j]?=aE v→(kC V a)[43+j]?=aE v:=by
 intro j v hv;have hj:j<(Li V.y V.a1 V.a2).length:=(List.getElem?_eq_some_iff.1 hv).1;have hi:(lB V.p).length=32:=by simp[lB,hp]
 have zC:(lB V.d).length=8:=by simp[lB,hd]
 have h2:(C6 V.t a.A a.n a.c).length=2:=D;show(Value.int Y V.k::_)[43+j]?=_
 rw[show 43+j=(42+j)+1 by omega,eV,dG (by omega),hi,show 42+j-32=10+j by omega,dG (by omega),h2,show 10+j-2=8+j by omega,
  dG (by omega),zC,show 8+j-8=j by omega,List.getElem?_append_left hj,hv]
theorem om(hp:V.p.length=32)(hd:V.d.length=8): ∀j v,(C6 V.la a.A' a.n' a.c')[j]?=aE v→(kC V a)[46+j]?=aE v:=by
 intro j v hv;have hi:(lB V.p).length=32:=by simp[lB,hp]
 have zC:(lB V.d).length=8:=by simp[lB,hd]
 have h2:(C6 V.t a.A a.n a.c).length=2:=D;have h3:(Li V.y V.a1 V.a2).length=3:=D;show(Value.int Y V.k::_)[46+j]?=_
 rw[show 46+j=(45+j)+1 by omega,eV,dG (by omega),hi,show 45+j-32=13+j by omega,dG (by omega),h2,show 13+j-2=11+j by omega,
  dG (by omega),zC,show 11+j-8=3+j by omega,dG (by omega),h3,show 3+j-3=j by omega,hv]
end
def UbB(w:aS)(g:Nat)(V:Ed)(a:Nj):Prop:=w.heap[g]?=aE (aI (kC V a).toArray 65)
section
variable {w w':World} {g:Nat} {V:Ed} {a:Nj}
theorem UbB.old(h:UbB w g V a){B:Nat}(hb:aV B w w')(hg:g<B):UbB w' g V a:=bV h hb hg
theorem UbB.kc(h:UbB w g V a):w.cell? ⟨g,0,J⟩=aE (O Y V.k):=bL (i:=0) h D
theorem UbB.range{o:Nat}{l:List aT}(h:UbB w g V a)(hl: ∀j v,l[j]?=aE v→(kC V a)[o+j]?=aE v):w.rangeAt g o l:=fun j v hv=>
 bL (i:=o+j) h (by rw[dO];exact hl j v hv)
theorem UbB.pr(h:UbB w g V a)(hp:V.p.length=32):w.rangeAt g 1 (lB V.p):=h.range (nw hp)
theorem UbB.sr(h:UbB w g V a)(hp:V.p.length=32):w.rangeAt g 33 (C6 V.t a.A a.n a.c):=h.range (mw hp)
theorem UbB.dr(h:UbB w g V a)(hp:V.p.length=32):w.rangeAt g 35 (lB V.d):=h.range (oh hp)
theorem UbB.ar(h:UbB w g V a)(hp:V.p.length=32)(hd:V.d.length=8):w.rangeAt g 43 (Li V.y V.a1 V.a2):=h.range (oo hp hd)
theorem UbB.qr(h:UbB w g V a)(hp:V.p.length=32)(hd:V.d.length=8):w.rangeAt g 46 (C6 V.la a.A' a.n' a.c'):=h.range (om hp hd)
theorem UbB.tc(h:UbB w g V a)(hp:V.p.length=32):w.cell? ⟨g,33,J⟩=aE (O Y V.t):=h.sr hp 0 _ D
theorem Ds{b:Nat}{t:aY} : ∀(vs pre olds post:List aT) (w:aS),w.heap[b]?=aE (aI (pre++(olds++post)).toArray t)→olds.length=vs.length→(w.setCells b pre.length vs).heap[b]?=aE (aI (pre++(vs++post)).toArray t)
 | [],pre,olds,post,w,h,hl=>by obtain rfl:olds= []:=cU (by simpa using hl);exact h
 |v::vs,pre,[],post,w,h,hl=>by simp at hl
 |v::vs,pre,x::olds,post,w,h,hl=>by
  have h1:=cN (i:=pre.length) h v;have e1:(pre++(x::olds++post)).toArray.setIfInBounds pre.length v=((pre++ [v])++(olds++post)).toArray:=by simp
  rw[e1] at h1;have:=Ds vs (pre++ [v]) olds post _ h1 (by simpa using hl);unfold World.setCells;simpa using this
end
abbrev rI:=@UbR.nil
end
section
open Go.RowKit NumLaw
attribute [local go_sem] Addr.add_mid
def sV(c i:Int):aT:=
 match Bg c i with
 |1=> .iface 398 (aM #[])
 |2=> .iface 399 (aM #[])
 |3=> .iface 400 (aM #[])
 |4=> .iface 401 (aM #[])
 |5=> .iface 402 (aM #[])
 |_=> .nilIface
theorem LB:(Tryz.prog.info? 3).map (·.size)=aE 1:=by kernel_rfl
theorem lp(a b c d:Int)(w:aS):(Op.equalIn 10000 396 (aM #[O Y a,O Y b]) (aM #[O Y c,O Y d])).run bH w= .ok (a==c && b==d) w:=by
 have iJ: ∀w,(sizeOf 3).run bH w= .ok 1 w:=fun w=>by
  have h:=LB
  cases hq:Tryz.prog.info? 3 with
  |none=>rw[hq] at h;cases h
  |some i=>rw[hq] at h;injection h with h;simp[sizeOf,bF,hq,h]
 have he: ∀x y w,(Op.equalIn 9999 3 (O Y x) (O Y y)).run bH w= .ok (x==y) w:=fun x y w=>run_equalIn_int w 9998 3 Y Y x y dB;have p0: ∀(x y:Int) w,(part 3 #[O Y x,O Y y] 0).run bH w= .ok (O Y x) w:=fun x y w=>by simp[part,isAgg,dE dB]
 have p1: ∀(x y:Int) w,(part 3 #[O Y x,O Y y] 1).run bH w= .ok (O Y y) w:=fun x y w=>by simp[part,isAgg,dE dB]
 rw[Op.equalIn];simp only[eB,dE underlying396,eD,iJ,Std.Legacy.Range.forIn_eq_forIn_range',Std.Legacy.Range.size,Nat.sub_zero,Nat.add_sub_cancel,Nat.div_one];have hr:List.range' 0 2 1= [0,1]:=D;rw[hr];simp only[List.forIn_cons,List.forIn_nil,eB,Nat.zero_mul,Nat.one_mul,p0,p1,he,eD];cases h1:(a==c)
 ·simp
 ·cases h2:(b==d)<;>simp[p1,he,h2]
attribute [local go_sem] lp
theorem tK(c i:Int)(w:aS):
  aU bH 171 #[O Y c,O Y i] w fun e w'=>e=aJ (sV c i)∧w=w':=by
 obtain⟨P,hP⟩: ∃P,P=sV c i:=⟨_,D⟩;rw[←hP];go_enter func171,ntmps171;go_wp2;all_goals(go_ret;refine⟨?_,D⟩;rw[hP];clear hP;unfold sV Bg;simp_all)
 rw[bX (by omega),bX (by omega),bX (by omega),bX (by omega),bX (by omega)];rfl
end
section
open Go.RowKit NumLaw
theorem Ri(A:Option aW)(n c B:Nat)(b:List UInt8)(y:Bool)(w:aS)(h':Rd w B 1 A n c (bv b))(hB:B≤w.heap.size)(hn:n≤1000000000):
  aU bH 458 #[aL A n c,aG y] w fun e w'=> ∃x0 x1:Int,[x0,x1]=nQ rY b∧e=aJ (aN #[aM #[aG (if jM rY b=0 then y else aD),O Y x0,O Y x1],O Y (jM rY b:Int)])∧aV w.heap.size w w':=by
 obtain⟨oE,wE⟩: ∃oE,oE=jM rY b:=⟨_,D⟩;obtain⟨oT,DR⟩: ∃oT,oT=nQ rY b:=⟨_,D⟩;have tx:oE≠0→oT=List.replicate 2 0:=fun h=>by rw[DR];unfold nQ;rw[bX (by rw[←wE];exact h)];rfl
 have hT1:oE=0→oT=uT rY b∧oT.length=2:=fun h=>by
  have h':jM rY b=0:=by rw[←wE];exact h
  have e:oT=uT rY b:=by rw[DR];unfold nQ;rw[bY h']
  exact⟨e,by rw[e,(sU h').2.2];rfl⟩
 rw[←wE,←DR];have HT0:=bK tx;have HT1:=bK hT1;have HoE:=bK wE;clear wE DR tx hT1;have hb1:aV w.heap.size w (w.alloc (aI #[aG aD,O Y 0,O Y 0] 60)):=(bP _ _).alloc (bM _) _;have hres:=bS w (aI #[aG aD,O Y 0,O Y 0] 60);go_enter func458,ntmps458;go_wp2_with fail;generalize(w.alloc (aI #[aG aD,O Y 0,O Y 0] 60))=w1 at*;have fF:=bT hres;go_fit(La w1);rintro e w2 ⟨Af,nf,cf,rfl,xg,Gu,hb12⟩;have hb2:=eI hb1 hb12;replace hres:=bV hres hb12 fF;go_wp2_with fail;go_fit(qR Af nf cf w2.heap.size rY A n c B b w2 Gu (bM _) (h'.up (hb2.mono hB)) (bU hB hb2.size) (by omega) (by omega));rw[←HoE.out];rintro e w3 ⟨At,nt,ct,rfl,hown,hb23⟩;have hb3:=eI hb2 hb23;replace hres:=bV hres hb23 (by have:=hb12.size;omega);have Lo:w.heap.size<w2.heap.size:=by have:=hb12.size;omega
 clear hb1 hb12 hb2 hb23 Gu fF;by_cases he:oE=0
 ·obtain⟨q1,q2⟩:=HT1.out he;rw[←q1] at hown
  obtain⟨x0,x1,rfl⟩: ∃x0 x1:Int,oT= [x0,x1]:=by
   match oT,q2 with
   | [x0,x1],_=>exact⟨_,_,D⟩
  obtain rfl:nt=2:=by have:=hown.1;simp at this;omega
  subst he;clear q1 q2 HT0 HT1 HoE;go_wp2_with fail;obtain⟨g,rfl,Km,hg2,jI⟩:=Nh hown (by omega);have Kd:w.heap.size≠g:=by omega
  have k0:w3.cell? ⟨g,0,J⟩=aE (O Y x0):=jI 0 _ D;have k1:w3.cell? ⟨g,1,J⟩=aE (O Y x1):=jI 1 _ D;clear hown jI;refine cQ (fun w'=>w'.cell? ⟨g,0,J⟩=aE (O Y x0)∧w'.cell? ⟨g,1,J⟩=aE (O Y x1)) aD [] (by kernel_rfl) (by kernel_rfl) ⟨k0,k1⟩ ?_;replace hres:w3.drew.heap[w.heap.size]?=_:=hres;replace hb3:=hb3.drew;replace k0:w3.drew.cell? ⟨g,0,J⟩=aE (O Y x0):=k0;replace k1:w3.drew.cell? ⟨g,1,J⟩=aE (O Y x1):=k1;generalize w3.drew=w4 at*;repeat(first|refine fQ ?_|refine fP ?_)
  refine cR cO D (fun w' (hS:w'.cell? ⟨g,0,J⟩=aE (O Y x0)∧w'.cell? ⟨g,1,J⟩=aE (O Y x1))=>hS.1) ⟨k0,k1⟩ D (by rfl) ?_;refine PT ?_;repeat(first|refine fQ ?_|refine fP ?_)
  refine cR cO D (fun w' (hS:w'.cell? ⟨g,0,J⟩=aE (O Y x0)∧w'.cell? ⟨g,1,J⟩=aE (O Y x1))=>hS.2) ⟨k0,k1⟩ D (by rfl) ?_;refine PT ?_;repeat(first|refine fQ ?_|refine fP ?_)
  refine qB ?_;refine wpList_store_row D _ _ _ D w.heap.size #[aG y,O Y x0,O Y x1] D D _ _ hres (by kernel_rfl) D (by kernel_rfl) ?_;have hb5:=below_setRow hb3 (bM _) (#[aG y,O Y x0,O Y x1]:Array aT);have cS:=setRow_heap _ _ _ (#[aG y,O Y x0,O Y x1]:Array aT) _ _ hres;replace k0:=(cell_setRow_other w4 w.heap.size (#[aG y,O Y x0,O Y x1]:Array aT) ⟨g,0,J⟩ (oL Kd)).trans k0;replace k1:=(cell_setRow_other w4 w.heap.size (#[aG y,O Y x0,O Y x1]:Array aT) ⟨g,1,J⟩ (oL Kd)).trans k1;generalize(w4.setRow w.heap.size #[aG y,O Y x0,O Y x1])=w5 at*;go_wp2_with fail;refine cC ⟨k0,k1⟩ (fun h=>by cases h) ?_;refine PT ?_;repeat(first|refine fQ ?_|refine fP ?_)
  refine cV ?_;clear k0 k1 hres hb3;have cy:=bL (i:=0) (v:=aG y) cS D;have c0:=bL (i:=1) (v:=O Y x0) cS D;have c1:=bL (i:=2) (v:=O Y x1) cS D;go_wp2;refine bR (v:=aN #[aM #[aG y,O Y x0,O Y x1],O Y 0]) (by simp[results,go_sem,cy,c0,c1]) D ?_;exact⟨x0,x1,by first|rfl|simp,by first|rfl|simp,hb5⟩
 ·have zZ: ¬(oE:Int)=0:=by omega
  clear hown;go_wp2_with(with_reducible refine Iu ?_);refine eL (wpList_store_row D _ _ _ D w.heap.size #[aG aD,O Y 0,O Y 0] D D _ _ hres (by kernel_rfl) D (by kernel_rfl) ?_);have hb5:=below_setRow hb3 (bM _) (#[aG aD,O Y 0,O Y 0]:Array aT);have cS:=setRow_heap _ _ _ (#[aG aD,O Y 0,O Y 0]:Array aT) _ _ hres;generalize(w3.setRow w.heap.size #[aG aD,O Y 0,O Y 0])=w5 at*;have cy:=bL (i:=0) (v:=aG aD) cS D;have c0:=bL (i:=1) (v:=O Y 0) cS D;have c1:=bL (i:=2) (v:=O Y 0) cS D;go_wp2;refine bR (v:=aN #[aM #[aG aD,O Y 0,O Y 0],O Y oE]) (by simp[results,go_sem,cy,c0,c1]) D ?_;exact⟨0,0,(HT0.out he).symm,by first|rfl|simp[he],hb5⟩
end
section
open Go.RowKit NumLaw
attribute [local go_sem] Addr.add_mid
abbrev lC:=@Nat.le_of_lt
def Ml(V:Ed)(a:Nj)(V':Ed)(a':Nj)(o:Nat)(vs:List aT):Prop:=
 ∃pre olds post,kC V a=pre++(olds++post)∧kC V' a'=pre++(vs++post)∧pre.length=o∧olds.length=vs.length
theorem D6(g:Nat): ∀(vs:List aT) (k:Nat) (w:aS),Aw (fun j=>j=g) w (w.setCells g k vs)
 | [],_,w=>cY _ w
 |v::vs,k,w=>(Aw.set (U:=fun j=>j=g) (cY _ w) (p:=⟨g,k,J⟩) v D).trans (D6 g vs (k+1) _)
section
variable {V:Ed} {a:Nj}
theorem EZ{p':List Int}(hp:V.p.length=32)(yC:p'.length=32):Ml V a { V with p:=p' } a 1 (lB p'):=
 ⟨[O Y V.k],lB V.p,_,D,D,D,by simp[lB,hp,yC]⟩
theorem LN{t:Int}{A:Option aW}{n c:Nat}(hp:V.p.length=32):Ml V a { V with t:=t } { a with A:=A,n:=n,c:=c } 33 (C6 t A n c):=
 ⟨O Y V.k::lB V.p,C6 V.t a.A a.n a.c,lB V.d++(Li V.y V.a1 V.a2++C6 V.la a.A' a.n' a.c'),by simp[kC],by simp[kC],by simp[lB,hp],D⟩
theorem KB{d':List Int}(hp:V.p.length=32)(hd:V.d.length=8)(Y6:d'.length=8):Ml V a { V with d:=d' } a 35 (lB d'):=
 ⟨O Y V.k::(lB V.p++C6 V.t a.A a.n a.c),lB V.d,Li V.y V.a1 V.a2++C6 V.la a.A' a.n' a.c',by simp[kC],by simp[kC],by simp[lB,C6,hp],by simp[lB,hd,Y6]⟩
theorem LH{y:Bool}{a1 a2:Int}(hp:V.p.length=32)(hd:V.d.length=8):Ml V a { V with y:=y,a1:=a1,a2:=a2 } a 43 (Li y a1 a2):=
 ⟨O Y V.k::(lB V.p++(C6 V.t a.A a.n a.c++lB V.d)),Li V.y V.a1 V.a2,C6 V.la a.A' a.n' a.c',by simp[kC],by simp[kC],by simp[lB,C6,hp,hd],D⟩
theorem EM{t:Int}{A:Option aW}{n c:Nat}(hp:V.p.length=32)(hd:V.d.length=8):Ml V a { V with la:=t } { a with A':=A,n':=n,c':=c } 46 (C6 t A n c):=
 ⟨O Y V.k::(lB V.p++(C6 V.t a.A a.n a.c++(lB V.d++Li V.y V.a1 V.a2))),C6 V.la a.A' a.n' a.c',[],by simp[kC],by simp[kC],by simp[lB,C6,Li,hp,hd],D⟩
theorem UbB.there{w:aS}{g:Nat}(h:UbB w g V a)(hp:V.p.length=32)(hd:V.d.length=8){o n:Nat}(hn:o+n≤48):w.there g o n:=by
 intro j hj;have hl:=o9 (a:=a) hp hd;refine⟨?_,bZ h⟩;have: ∃v,(kC V a)[o+j]?=aE v:=⟨_,cF (by omega)⟩;obtain⟨v,hv⟩:=this;rw[bL (i:=o+j) (v:=v) h (by rw[dO];exact hv)];rfl
theorem UbB.set{w:aS}{g o:Nat}{vs:List aT}{V':Ed}{a':Nj}(h:UbB w g V a)(e:Ml V a V' a' o vs):UbB (w.setCells g o vs) g V' a'∧Aw (fun k=>k=g) w (w.setCells g o vs):=by
 obtain⟨pre,olds,post,h1,h2,rfl,h4⟩:=e;refine⟨?_,D6 g vs _ w⟩;unfold UbB at h ⊢;rw[h1] at h;rw[h2];exact Ds vs pre olds post w h h4
end
theorem Ou{w w':aS}{B size n c g:Nat}{A:Option aW}{ls:List (List aT)}(h:RdR w B size A n c ls)(hB:B≤w.heap.size)(haw:Aw (fun k=>k=g) w w')(hf: ∀p,A=aE p→p.block≠g):RdR w' w'.heap.size size A n c ls:=
 ⟨h.1,h.2.1,h.2.2.1,h.2.2.2.1,fun hn=>by
  obtain⟨b,off,e,hg,hr⟩:=h.2.2.2.2 hn;have EJ:b≠g:=hf _ e;have hbw:b<w.heap.size:=cI hg hB;refine⟨b,off,e,cI hbw haw.size,fun k r hk j v hv=> ?_⟩;have h1:=hr k r hk j v hv;have h2:=haw.block b hbw EJ;unfold World.cell? at h1 ⊢;rw[h2]
  exact h1⟩
theorem C7{w w':aS}{V:Ed}{a:Nj}{g:Nat}(h:UbR w w.heap.size V a)(haw:Aw (fun k=>k=g) w w')(hf: ∀p,a.A=aE p∨a.A'=aE p→p.block≠g):UbR w' w'.heap.size V a:=
 ⟨Ou h.s (bM _) haw (fun p hp=>hf p (.inl hp)),Ou h.q (bM _) haw (fun p hp=>hf p (.inr hp))⟩
def Qf(w:aS)(g:Nat)(V:Ed)(err:Nat)(e:aX)(w':aS):Prop:=
 ∃a,e=aJ (O Y (err:Int))∧UbB w' g V a∧UbR w' w'.heap.size V a∧(∀p,a.A=aE p∨a.A'=aE p→g<p.block)∧aV g w w'
theorem Zl(A:Option aW)(n c B:Nat)(b:List UInt8)(w:aS)(h':Rd w B 1 A n c (bv b))(hB:B≤w.heap.size)(hn:n≤1000000000):
  aU bH 452 #[aL A n c] w fun e w'=>e=aJ (aN #[aM (lB (nQ vU b)).toArray,O Y (jM vU b:Int)])∧aV w.heap.size w w':=
 (R0 A n c B b w h' hB hn).mono fun e w' ⟨x0,x1,x2,x3,x4,x5,x6,x7,hx,he,hb⟩=>⟨by rw[he,←hx];rfl,hb⟩
theorem AI(A:Option aW)(n c B:Nat)(b:List UInt8)(y:Bool)(w:aS)(h':Rd w B 1 A n c (bv b))(hB:B≤w.heap.size)(hn:n≤1000000000):
  aU bH 458 #[aL A n c,aG y] w fun e w'=>e=aJ (aN #[aM (Li (if jM rY b=0 then y else aD) ((nQ rY b).getD 0 0) ((nQ rY b).getD 1 0)).toArray,O Y (jM rY b:Int)])∧aV w.heap.size w w':=
 (Ri A n c B b y w h' hB hn).mono fun e w' ⟨x0,x1,hx,he,hb⟩=>⟨by rw[he,←hx];rfl,hb⟩
theorem Yj(t:Int)(A:Option aW)(n c:Nat): ∀v∈C6 t A n c,v.oneCell'=aF:=by
 intro v hv;simp only[C6,fL,List.not_mem_nil,or_false] at hv;rcases hv with rfl|rfl<;>rfl
theorem PO(y:Bool)(a b:Int): ∀v∈Li y a b,v.oneCell'=aF:=by
 intro v hv;simp only[Li,fL,List.not_mem_nil,or_false] at hv;rcases hv with rfl|rfl|rfl<;>rfl
theorem PG(A:Option aW)(n c B:Nat)(b:List UInt8)(i:Int)(g:Nat)(w:aS)(h:Rd w B 1 A n c (bv b))(hB:B≤w.heap.size)(hn:n≤1000000000)(hx:UbB w g { kH with k:=1 } kZ):
  aU bH 423 #[aM #[],aK (aE ⟨g,0,J⟩),aL A n c,O Y i] w (Qf w g { kH with k:=1,p:=zU b } (jM pvtF b)):=by
 have hb:=(bP w.heap.size w).alloc (bM _) (aI #[] 398);have hx1:=hx.old hb (bT hx);have yN:=bT hx;go_enter func423,ntmps423;go_wp2_with fail;generalize(w.alloc (aI #[] 398))=w1 at*;go_fit(Sh A n c B b w1 (h.up (hb.mono hB)) (by have:=hb.size;omega) hn);rintro e w2 ⟨rfl,hb2⟩;have hx2:=hx1.old hb2 (bT hx1);have hb12:=eI hb hb2;go_wp2_with(with_reducible refine sG [53] ?_);refine eL (wpList_store_mid D _ _ _ D g 1 (lB (zU b)).toArray D D (hx2.there D D (by rw[cG];rw[zS,wS];omega)) (by rw[cG,zS,wS];kernel_rfl) (all_oneCell_toArray (Et _)) ?_);obtain⟨Na,haw⟩:=hx2.set (EZ D (wS b));have hb3:=fE (hb12.mono (lC yN)) haw (fun k hk=>by rw[hk];exact bM _) (lC (bT hx2));simp only[List.toList_toArray];generalize w2.setCells g 1 (lB (zU b))=w3 at*;clear hx hx1 hx2 haw h hB hb hb2 hb12;go_wp2;go_ret;exact⟨kZ,D,Na,rI _ _ _ D D,(fun p hp=>by rcases hp with hp|hp<;>cases hp),hb3⟩
theorem SY(A:Option aW)(n c B:Nat)(b:List UInt8)(i:Int)(g:Nat)(w:aS)(h:Rd w B 1 A n c (bv b))(hB:B≤w.heap.size)(hn:n≤1000000000)(hx:UbB w g { kH with k:=2 } kZ):
  aU bH 438 #[aM #[],aK (aE ⟨g,0,J⟩),aL A n c,O Y i] w (Qf w g { kH with k:=2,t:=xB b,l:=yS b } (nN b)):=by
 have hb:=(bP w.heap.size w).alloc (bM _) (aI #[] 399);have hx1:=hx.old hb (bT hx);have yN:=bT hx;go_enter func438,ntmps438;go_wp2_with fail;generalize(w.alloc (aI #[] 399))=w1 at*;go_fit(Ky A n c B b w1 (h.up (hb.mono hB)) (by have:=hb.size;omega) hn);rintro e w2 ⟨A2,n2,c2,rfl,hr2,Tc,hb2⟩;have hx2:=hx1.old hb2 (bT hx1);have hb12:=eI hb hb2;go_wp2_with(with_reducible refine sG [56] ?_);refine eL (wpList_store_mid D _ _ _ D g 33 (C6 (xB b) A2 n2 c2).toArray D D (hx2.there D D (by rw[cG];show 33+2≤48;omega)) (by kernel_rfl) (all_oneCell_toArray (Yj _ _ _ _)) ?_);obtain⟨Na,haw⟩:=hx2.set (LN (V:= { kH with k:=2 }) D);have hb3:=fE (hb12.mono (lC yN)) haw (fun k hk=>by rw[hk];exact bM _) (lC (bT hx2));have hr3:=Ou hr2 (bM _) haw (fun p hp=>by have:=Tc p hp;have:=bT hx1;omega);have hfg: ∀p,A2=aE p→g<p.block:=fun p hp=>cI (bT hx1) (Tc p hp);simp only[List.toList_toArray];generalize w2.setCells g 33 (C6 (xB b) A2 n2 c2)=w3 at*;clear hx hx1 hx2 haw h hB hb hb2 hb12;go_wp2;go_ret;exact⟨{ kZ with A:=A2,n:=n2,c:=c2 },D,Na,⟨hr3,kR _ _ 2⟩,(fun p hp=>by rcases hp with hp|hp;exact hfg p hp;cases hp),hb3⟩
theorem RA(A:Option aW)(n c B:Nat)(b:List UInt8)(i:Int)(g:Nat)(w:aS)(h:Rd w B 1 A n c (bv b))(hB:B≤w.heap.size)(hn:n≤1000000000)(hx:UbB w g { kH with k:=3 } kZ):
  aU bH 450 #[aM #[],aK (aE ⟨g,0,J⟩),aL A n c,O Y i] w (Qf w g { kH with k:=3,d:=nQ vU b } (jM vU b)):=by
 have hb:=(bP w.heap.size w).alloc (bM _) (aI #[] 400);have hx1:=hx.old hb (bT hx);have yN:=bT hx;go_enter func450,ntmps450;go_wp2_with fail;generalize(w.alloc (aI #[] 400))=w1 at*;go_fit(Zl A n c B b w1 (h.up (hb.mono hB)) (by have:=hb.size;omega) hn);rintro e w2 ⟨rfl,hb2⟩;have hx2:=hx1.old hb2 (bT hx1);have hb12:=eI hb hb2;go_wp2_with(with_reducible refine sG [58] ?_);refine eL (wpList_store_mid D _ _ _ D g 35 (lB (nQ vU b)).toArray D D (hx2.there D D (by rw[cG];rw[zS,Bb];omega)) (by rw[cG,zS,Bb];kernel_rfl) (all_oneCell_toArray (Et _)) ?_);obtain⟨Na,haw⟩:=hx2.set (KB D D (Bb b));have hb3:=fE (hb12.mono (lC yN)) haw (fun k hk=>by rw[hk];exact bM _) (lC (bT hx2));simp only[List.toList_toArray];generalize w2.setCells g 35 (lB (nQ vU b))=w3 at*;clear hx hx1 hx2 haw h hB hb hb2 hb12;go_wp2;go_ret;exact⟨kZ,D,Na,rI _ _ _ D D,(fun p hp=>by rcases hp with hp|hp<;>cases hp),hb3⟩
theorem OQ(A:Option aW)(n c B:Nat)(b:List UInt8)(i:Int)(g:Nat)(w:aS)(h:Rd w B 1 A n c (bv b))(hB:B≤w.heap.size)(hn:n≤1000000000)(hx:UbB w g { kH with k:=4 } kZ):
  aU bH 457 #[aM #[],aK (aE ⟨g,0,J⟩),aL A n c,O Y i] w (Qf w g { kH with k:=4,y:=(if jM rY b=0 then decide (i=1) else aD),a1:=(nQ rY b).getD 0 0,a2:=(nQ rY b).getD 1 0 } (jM rY b)):=by
 obtain⟨yv,hyv⟩: ∃yv,yv=(if jM rY b=0 then decide (i=1) else aD):=⟨_,D⟩;obtain⟨x0v,fk⟩: ∃x,x=(nQ rY b).getD 0 0:=⟨_,D⟩;obtain⟨x1v,fl⟩: ∃x,x=(nQ rY b).getD 1 0:=⟨_,D⟩;rw[←hyv,←fk,←fl];have Htk:=bK (fun w1 h1 hB1=>AI A n c B b (decide (i=1)) w1 h1 hB1 hn);rw[←hyv,←fk,←fl] at Htk;clear hyv fk fl;have hb:=(bP w.heap.size w).alloc (bM _) (aI #[] 401);have hx1:=hx.old hb (bT hx);have yN:=bT hx;go_enter func457,ntmps457;go_wp2_with fail;generalize(w.alloc (aI #[] 401))=w1 at*;go_fit(Htk.out w1 (h.up (hb.mono hB)) (by have:=hb.size;omega));rintro e w2 ⟨rfl,hb2⟩;have hx2:=hx1.old hb2 (bT hx1);have hb12:=eI hb hb2;go_wp2_with(with_reducible refine sG [60] ?_);refine eL (wpList_store_mid D _ _ _ D g 43 (Li yv x0v x1v).toArray D D (hx2.there D D (by rw[cG];show 43+3≤48;omega)) (by kernel_rfl) (all_oneCell_toArray (PO _ _ _)) ?_);obtain⟨Na,haw⟩:=hx2.set (LH D D);have hb3:=fE (hb12.mono (lC yN)) haw (fun k hk=>by rw[hk];exact bM _) (lC (bT hx2));simp only[List.toList_toArray];generalize w2.setCells g 43 (Li yv x0v x1v)=w3 at*;clear hx hx1 hx2 haw h hB hb hb2 hb12;go_wp2;go_ret;exact⟨kZ,D,Na,rI _ _ _ D D,(fun p hp=>by rcases hp with hp|hp<;>cases hp),hb3⟩
theorem QA(A:Option aW)(n c B:Nat)(b:List UInt8)(i:Int)(g:Nat)(w:aS)(h:Rd w B 1 A n c (bv b))(hB:B≤w.heap.size)(hn:n≤1000000000)(hx:UbB w g { kH with k:=5 } kZ):
  aU bH 462 #[aM #[],aK (aE ⟨g,0,J⟩),aL A n c,O Y i] w (Qf w g { kH with k:=5,la:=Bj b,q:=Cf b } (rR b)):=by
 have hb:=(bP w.heap.size w).alloc (bM _) (aI #[] 402);have hx1:=hx.old hb (bT hx);have yN:=bT hx;go_enter func462,ntmps462;go_wp2_with fail;generalize(w.alloc (aI #[] 402))=w1 at*;go_fit(Nf A n c B b w1 (h.up (hb.mono hB)) (by have:=hb.size;omega) hn);rintro e w2 ⟨A2,n2,c2,rfl,hr2,Tc,hb2⟩;have hx2:=hx1.old hb2 (bT hx1);have hb12:=eI hb hb2;go_wp2_with(with_reducible refine sG [63] ?_);refine eL (wpList_store_mid D _ _ _ D g 46 (C6 (Bj b) A2 n2 c2).toArray D D (hx2.there D D (by rw[cG];show 46+2≤48;omega)) (by kernel_rfl) (all_oneCell_toArray (Yj _ _ _ _)) ?_);obtain⟨Na,haw⟩:=hx2.set (EM (V:= { kH with k:=5 }) D D);have hb3:=fE (hb12.mono (lC yN)) haw (fun k hk=>by rw[hk];exact bM _) (lC (bT hx2));have hr3:=Ou hr2 (bM _) haw (fun p hp=>by have:=Tc p hp;have:=bT hx1;omega);have hfg: ∀p,A2=aE p→g<p.block:=fun p hp=>cI (bT hx1) (Tc p hp);simp only[List.toList_toArray];generalize w2.setCells g 46 (C6 (Bj b) A2 n2 c2)=w3 at*;clear hx hx1 hx2 haw h hB hb hb2 hb12;go_wp2;go_ret;exact⟨{ kZ with A':=A2,n':=n2,c':=c2 },D,Na,⟨kR _ _ 7,hr3⟩,(fun p hp=>by rcases hp with hp|hp;cases hp;exact hfg p hp),hb3⟩
theorem gC(V:Ed)(a:Nj)(hp:V.p.length=32)(hd:V.d.length=8):(Tryz.prog.info? 65).map (·.size)=aE (kC V a).toArray.size:=by rw[cG,o9 hp hd];kernel_rfl
theorem kP{V V':Ed}{a a':Nj}(hp:V.p.length=32)(hd:V.d.length=8)(yC:V'.p.length=32)(Y6:V'.d.length=8):(kC V a).toArray.size=(kC V' a').toArray.size:=by rw[cG,cG,o9 hp hd,o9 yC Y6]
theorem oO(V:Ed)(a:Nj):(kC V a).toArray.all (·.oneCell')=aF:=all_oneCell_toArray (X4 V a)
end
section
open Go.RowKit
def OwB(w:aS)(base:Nat)(e:aY)(A:Option aW)(n c:Nat)(xs:List aT):Prop:=
 xs.length=n∧n≤c∧c≤bB∧∃g cs fr,A=aE ⟨g,0,J⟩∧base≤g∧w.heap[g]?=aE (aI cs e fr)∧cs.size=c∧(fr=(0,0)∨c≤fr.1)∧cs.toList.take n=xs
theorem OwB.up{w w':aS}{base n c:Nat}{e:aY}{A:Option aW}{xs:List aT}(h:OwB w base e A n c xs)(hb:aV w.heap.size w w'):OwB w' base e A n c xs:=by
 obtain⟨h1,h2,h3,g,cs,fr,h4,h5,h6,h7⟩:=h;exact⟨h1,h2,h3,g,cs,fr,h4,h5,bV h6 hb (bT h6),h7⟩
theorem OwB.drew{w:aS}{base n c:Nat}{e:aY}{A:Option aW}{xs:List aT}(h:OwB w base e A n c xs):OwB w.drew base e A n c xs:=h
theorem OwB.rd{w:aS}{base n c:Nat}{e:aY}{A:Option aW}{xs:List aT}(h:OwB w base e A n c xs):Rd w w.heap.size 1 A n c xs:=by
 obtain⟨h1,h2,h3,g,cs,fr,rfl,h5,h6,h7,h8,rfl⟩:=h;refine⟨by omega,h2,h3,fun _=>⟨_,D,bT h6,fun j u hu=> ?_⟩⟩;have e1:(⟨g,0,J⟩:aW).add j=⟨g,j,J⟩:=by unfold Addr.add;split<;>simp_all
 rw[e1];refine bL h6 ?_;rw[pN] at hu;split at hu
 ·rwa[Array.getElem?_toList] at hu
 ·cases hu
theorem OwB.bytes(w:aS)(e:aY)(s:ByteArray)(base:Nat)(hB:base≤w.heap.size)(hm:s.size≤bB):OwB (Lib.bytesWorld w e s) base e (aE ⟨w.heap.size,0,J⟩) s.size (grownCap w s.size 0 e) (s.data.toList.map fun b=>Value.int aP (b.toNat:Int)):=by
 have zB:=grownCap_ge w s.size 0 e;have iJ:(Lib.bytesCells w e s).size=grownCap w s.size 0 e:=by unfold Lib.bytesCells;rw[Array.size_append,Array.size_map,Array.size_replicate];have:s.data.size=s.size:=D;omega
 refine⟨by rw[List.length_map];exact oN,zB,grownCap_le_maxLen _ _ _ _ hm,w.heap.size,_,_,D,hB,Lib.bytesWorld_at_new w e s,iJ,.inr (by rw[iJ];exact bM _),?_⟩;unfold Lib.bytesCells;rw[Array.toList_append,Array.toList_map,fW (by rw[List.length_map];exact Nat.le_of_eq Array.length_toList.symm),List.take_of_length_le (by rw[List.length_map];exact Nat.le_of_eq oN)]
theorem OwB.own{w:aS}{base n c:Nat}{e:aY}{A:Option aW}{xs:List aT}(h:w.ownsRow base e 1 (aL A n c) n xs)(hn:0<n):OwB w base e A n c xs:=by
 obtain⟨h1,h2⟩:=h;rcases h2 with⟨_,h0⟩|⟨g,cap,cur,he,hb,hg,h3,h4,h5,h6⟩
 ·omega
 ·injection he with e1 e2 e3;subst e1;subst e3;exact⟨by omega,h3,h4,g,cur,(0,0),D,hb,hg,by omega,.inl D,by simpa using h6⟩
end
end Go.Proofs.YtfoabhdppkjmbaaGreat
