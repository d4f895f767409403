import Derived.Test.YtfoabhdppkjmbaaGreatKZ11
import Derived.Test.YtfoabhdppkjmbaaGreatKZ17
import Derived.Test.YtfoabhdppkjmbaaGreatKZ18
set_option linter.unusedSimpArgs false
set_option linter.unusedVariables false
set_option maxHeartbeats 6000000
set_option maxRecDepth 20000
namespace Go.Proofs.YtfoabhdppkjmbaaGreat
open Bool renaming false→aD,true→aF
open Go renaming Addr→aW,Calls→aU,Ending→aX,Program→aZ,TypeId→aY,Value→aT,World→aS,maxLen→bB
open Go.Ending renaming returned→aJ
open Go.IntKind renaming i64→Y
open Go.Obj renaming cells→aI
open Go.Proofs.Tryz renaming prog→bH,zeroCells84→bI
open Go.RowKit renaming Below→aV,intOf→bE
open Go.Value renaming agg→aM,bool→aG,int→O,pointer→aK,slice→aL,string→aH,tuple→aN
open Option renaming none→J,some→aE
open Go.Proofs.Tryz
namespace NumLaw
end NumLaw
section
open Go.RowKit NumLaw
attribute [local go_sem] Addr.add_mid
attribute [-go_sem] run_eql_struct run_neq_struct
abbrev lD:=@underlying77
def C8(v:N5)(A:Option aW)(n c:Nat):List aT:=aG v.auto::O Y v.fix::aL A n c::v.dops
theorem zl(N:Nat)(s:kY):wI N s=([]++(wI (N-0) s).1,(wI (N-0) s).2):=rfl
def bt(w:aS)(q:N5 × Nat)(e:aX)(w':aS):Prop:=
 ∃A n c,e=aJ (aN #[aM (C8 q.1 A n c).toArray,O Y (q.2:Int)])∧Rd w' w'.heap.size 1 A n c (q.1.ids.map (Value.int Y))∧(∀p,A=aE p→w.heap.size≤p.block)∧n≤12∧aV w.heap.size w w'
theorem SA(X:List Int)(m:Nat)(n:Int)(hm:X.length=m)(h:m<12):
  (X.map (Value.int Y)++List.replicate (12-m) (Value.int Y 0)).toArray.setIfInBounds m (O Y n)=((X++ [n]).map (Value.int Y)++List.replicate (12-(m+1)) (Value.int Y 0)).toArray:=by
 subst hm;obtain⟨d,hd⟩: ∃d,12-X.length=d+1:=⟨12-X.length-1,by omega⟩;have Y6:12-(X.length+1)=d:=by omega
 rw[hd,Y6,List.replicate_succ];simp[List.set_append]
theorem ZA(X:List Int)(m ga e:Nat)(w:aS)(hm:X.length=m)(h12:m≤12)(h:w.heap[ga]?=aE (aI (X.map (Value.int Y)++List.replicate (12-m) (Value.int Y 0)).toArray e)):
  Rd w w.heap.size 1 (aE ⟨ga,0,J⟩) m m (X.map (Value.int Y)):=by
 refine⟨by rw[dA];omega,bM _,by unfold bB;omega,fun hn=>⟨_,D,bT h,fun j u hu=> ?_⟩⟩;rw[lW,fZ];refine bL h ?_;rw[dO,eX (List.getElem?_eq_some_iff.1 hu).1];exact hu
theorem Ro(A:Option aW)(n c B:Nat)(l:List ByteArray)(w:aS)(h:Rd w B 1 A n c (nY l))(hB:B≤w.heap.size)(hn:n≤1000)(hl: ∀s∈l,s.size≤1000000):
  aU bH 279 #[aL A n c] w (bt w (zL l)):=by
 have oJ:l.length=n:=by have:=h.len;simpa [nY] using this
 have hres:=bS w (aI #[aG aD,O Y 0,aL J 0 0,aG aD,O Y 0,aG aD,O Y 0,aG aD,O Y 0] 77);have hb0:aV w.heap.size w (w.alloc (aI #[aG aD,O Y 0,aL J 0 0,aG aD,O Y 0,aG aD,O Y 0,aG aD,O Y 0] 77)):=(bP _ _).alloc (bM _) _;by_cases h14:n=17
 case neg=>
  have HR:Hid (zL l=(gs0,3)):=bK (by unfold zL;rw[bX (by omega)]);have i14: ¬(n:Int)=17:=by omega
  clear h h14 oJ;go_enter func279,ntmps279;go_wp2_with(with_reducible refine sG [77] ?_);refine eL (bQ D _ _ _ D w.heap.size #[aG aD,O Y 0,aL J 0 0,aG aD,O Y 0,aG aD,O Y 0,aG aD,O Y 0] D D _ _ hres (by kernel_rfl) D (by kernel_rfl) ?_);have cS:=bW _ _ _ (#[aG aD,O Y 0,aL J 0 0,aG aD,O Y 0,aG aD,O Y 0,aG aD,O Y 0]:Array aT) _ _ hres;have hb5:=cB hb0 (bM _) (#[aG aD,O Y 0,aL J 0 0,aG aD,O Y 0,aG aD,O Y 0,aG aD,O Y 0]:Array aT);generalize((w.alloc (aI #[aG aD,O Y 0,aL J 0 0,aG aD,O Y 0,aG aD,O Y 0,aG aD,O Y 0] 77)).setRow w.heap.size #[aG aD,O Y 0,aL J 0 0,aG aD,O Y 0,aG aD,O Y 0,aG aD,O Y 0])=v5 at*;go_wp2;exact bR (cD D _ _ w.heap.size _ _ _ _ D cS lD D (by kernel_rfl)) D ⟨J,0,0,by rw[HR.out];rfl,by rw[HR.out];exact iH _ _ _,fun p hp=>(by cases hp),by omega,hb5⟩
 subst h14;have hL:=xN A 17 c B l (w.alloc (aI #[aG aD,O Y 0,aL J 0 0,aG aD,O Y 0,aG aD,O Y 0,aG aD,O Y 0] 77)) (h.up (hb0.mono hB)) (bU hB hb0.size) (by omega);unfold Lz at hL;have HL:=bK hL;have HRES:=bK hres;have hok:EyOk (0,l):=fun s hs=>hl s hs;have HV:Hid (zL l=(if(Gw l).2=0 then(Gw l).1 else gs0,(Gw l).2)):=bK (by unfold zL;rw[bY oJ]);clear hL hres h oJ hl;go_enter func279,ntmps279;go_wp2_with fail;go_fit HL.out;rintro e v ⟨g,rfl,hE,oU,J8,hb⟩;have hT:TkB w 77 #[aG aD,O Y 0,aL J 0 0,aG aD,O Y 0,aG aD,O Y 0,aG aD,O Y 0] (w.heap.size+1) g w.heap.size (0,l) #[aG aD,O Y 0,aL J 0 0,aG aD,O Y 0,aG aD,O Y 0,aG aD,O Y 0] v:=by have hs:(w.alloc (aI #[aG aD,O Y 0,aL J 0 0,aG aD,O Y 0,aG aD,O Y 0,aG aD,O Y 0] 77)).heap.size=w.heap.size+1:=cL _ _;rw[hs] at hE oU;have hr:=bV HRES.out hb (by simp);exact⟨hE,hr,hr,eI hb0 hb,by omega,by omega,by omega,by omega,.inl (by omega)⟩
 clear HRES HL hb hb0 hE oU J8;obtain⟨s0,wT⟩: ∃s0,s0=((0,l):kY):=⟨_,D⟩;rw[←wT] at hT hok;have Q0:=bK wT;clear wT;obtain⟨⟨b1,s1⟩,hq⟩: ∃q,q=wJ 65 77 s0:=⟨_,D⟩;have hC:=R8 _ g s0 _ hT.e hT.l;have hok1:EyOk s1:=by have:=hok.ab 65 77;rw[←hq] at this;exact this
 rw[←hq] at hC;have Q1:=bK hq;have HC:=bK hC;clear hq hC hok;go_wp2_with fail;go_fit HC.out;rintro e v1 ⟨rfl,hE',ha'⟩;replace hT:=hT.aw hE' ha';clear hE' ha' HC;obtain⟨⟨n2,s2⟩,hq⟩: ∃q,q=kD 1 3 s1:=⟨_,D⟩;have hC:=Ux _ g s1 _ hT.e hT.l;have xU:EyOk s2:=by have:=hok1.dig 1 3;rw[←hq] at this;exact this
 rw[←hq] at hC;have Q2:=bK hq;have HC:=bK hC;clear hq hC hok1;go_wp2_with fail;go_fit HC.out;rintro e v2 ⟨rfl,hE',ha'⟩;replace hT:=hT.aw hE' ha';clear hE' ha' HC;obtain⟨C1,Tj⟩: ∃C:Array aT,C= #[aG b1,O Y n2,aL J 0 0,aG aD,O Y 0,aG aD,O Y 0,aG aD,O Y 0]:=⟨_,D⟩;have yN:=hT.e.lt;have hT1:=hT.new C1;have hbx:aV (v2.alloc (aI C1 77)).heap.size (v2.alloc (aI C1 77)) ((v2.alloc (aI C1 77)).alloc (aI #[O Y 0,O Y 0,O Y 0,O Y 0,O Y 0,O Y 0,O Y 0,O Y 0,O Y 0,O Y 0,O Y 0,O Y 0] 541)):=(bP _ _).alloc (bM _) _;have An:=bS (v2.alloc (aI C1 77)) (aI #[O Y 0,O Y 0,O Y 0,O Y 0,O Y 0,O Y 0,O Y 0,O Y 0,O Y 0,O Y 0,O Y 0,O Y 0] 541);have hT2:=hT1.bel hbx;have HT:=bK (bO hT2 An);clear hT hT1 hT2 hbx An;rw[Tj] at HT;go_wp2_with fail;rw[←Tj] at HT;obtain⟨hT,An⟩:=HT.out;clear HT;obtain⟨gm,yV⟩: ∃gm,gm=v2.heap.size:=⟨_,D⟩;obtain⟨ga,ej⟩: ∃ga,ga=v2.heap.size+1:=⟨_,D⟩;rw[show(v2.alloc (aI C1 77)).heap.size=v2.heap.size+1 from cL _ _,←ej] at An;rw[←yV] at hT;rw[←Tj];generalize((v2.alloc (aI C1 77)).alloc (aI #[O Y 0,O Y 0,O Y 0,O Y 0,O Y 0,O Y 0,O Y 0,O Y 0,O Y 0,O Y 0,O Y 0,O Y 0] 541))=v3 at*;rw[←ej,←yV];have Pj:g<gm∧gm<ga:=by omega
 clear yN yV ej;have HC1:=bK Tj;clear Tj;go_loopw [7,21] (fun p kk wr=> ∃(k m:Nat) (st:kY) (X:List Int),kk=O Y (k:Int)∧p=O Y (m:Int)∧k≤12∧m≤k∧TkB w 77 #[aG aD,O Y 0,aL J 0 0,aG aD,O Y 0,aG aD,O Y 0,aG aD,O Y 0] (w.heap.size+1) g gm st C1 wr∧wr.heap[ga]?=aE (aI (X.map (Value.int Y)++List.replicate (12-m) (Value.int Y 0)).toArray 541)∧EyOk st∧Hid (X.length=m∧wI 12 s2=(X++(wI (12-k) st).1,(wI (12-k) st).2))) (fun _ kk _=>12-(bE kk).toNat);case atStart=>exact⟨0,0,s2,[],D,D,by omega,by omega,hT,An,xU,bK ⟨D,zl 12 s2⟩⟩
 case round=>
  clear hT An xU;obtain⟨k,m,st,X,rfl,rfl,hk,CU,hT,An,hok,HX⟩:=hrel;by_cases h12:k<12
  ·have Td:(k:Int)<12:=by omega
   have Dh:(0:Int)≤(m:Int):=by omega
   have aBf:(m:Int)<12:=by omega
   have XC:m<12:=by omega
   go_wp2_with fail;go_fit(U1 _);rintro e w4 ⟨rfl,hb'⟩;have hT4:=hT.bel hb';have qx:=bV An hb' (bT An);clear hT An hb';obtain⟨b,n,DK,Q,pC,hC⟩:=yP BH JS hT4.e hT4.l hok;go_wp2_with fail;go_fit hC.out;rintro e w5 ⟨rfl,hE',ha'⟩;have hT5:=hT4.aw hE' ha';have MD:=ha'.keep qx (by omega);clear hT4 qx hC hE' ha' hok;have hbx:aV w5.heap.size w5 (w5.alloc (aI #[aG b,O Y n] 69)):=(bP _ _).alloc (bM _) _;have hT6:=hT5.bel hbx;have DL:=bV MD hbx (bT MD);have qy:wI (12-k) st=(if b=aF then n::(wI (12-(k+1)) DK).1 else(wI (12-(k+1)) DK).1,(wI (12-(k+1)) DK).2):=by rw[show 12-k=(12-(k+1))+1 by omega];show(if(gT BH st).1.is=aF then _ else _,_)=_;rw[Q.out]
   have HI:=bK qy;clear qy hT5 MD hbx Q
   cases b with
   |true=>
    have hst:=cN (i:=m) DL (O Y n);rw[SA X m n HX.out.1 XC] at hst;have haw:Aw (fun j=>j=ga) (w5.alloc (aI #[aG aF,O Y n] 69)) _:=(cY _ _).set (p:=⟨ga,m,J⟩) (O Y n) D;have hT7:=hT6.oth haw ⟨by omega,by omega⟩;have HT:=bK (bO hT7 hst);obtain⟨u,hu⟩: ∃u,(X.map (Value.int Y)++List.replicate (12-m) (Value.int Y 0)).toArray[m]?=aE u:=⟨_,dL (by simp;have:=HX.out.1;omega)⟩;have c0:=bL (i:=m) DL hu;have f0:=bZ (i:=m) DL;clear hst haw hT6 hT7 DL hu;go_wp2;go_roundw;case rel=>exact⟨k+1,m+1,DK,X++ [n],by go_num,by go_num,by omega,by omega,HT.out.1,HT.out.2,pC,bK ⟨by rw[cZ,HX.out.1];rfl,by rw[HX.out.2,HI.out];simp⟩⟩
    case measure=>simp[bE];omega
   |false=>
    have HT:=bK (bO hT6 DL);clear hT6 DL;go_wp2;go_roundw;case rel=>exact⟨k+1,m,DK,X,by go_num,D,by omega,by omega,HT.out.1,HT.out.2,pC,bK ⟨HX.out.1,by rw[HX.out.2,HI.out];simp⟩⟩
    case measure=>simp[bE];omega
  ·have Td: ¬(k:Int)<12:=by omega
   have qz:k=12:=by omega
   have OB:wI 12 s2=(X,st):=by rw[HX.out.2,qz];simp only[Nat.sub_self,wI,iX]
   have HX2:=bK (bO HX.out.1 OB);clear OB qz;have Dh:(0:Int)≤(m:Int):=by omega
   have aBf:(m:Int)≤12:=by omega
   have XC:m≤12:=by omega
   have DM:C1.setIfInBounds 2 (aL (aE ⟨ga,0,J⟩) m m)= #[aG b1,O Y n2,aL (aE ⟨ga,0,J⟩) m m,aG aD,O Y 0,aG aD,O Y 0,aG aD,O Y 0]:=by rw[HC1.out];rfl
   have c2:=hT.cell (i:=2) (x:=aL J 0 0) (by rw[HC1.out];rfl);have f2:=hT.free 2;have hT2:=hT.set1 (by omega) 2 (aL (aE ⟨ga,0,J⟩) m m) _ DM;have rb:=(gO gm 2 (aL (aE ⟨ga,0,J⟩) m m)).keep An (by omega);have HT2:=bK (bO hT2 rb);clear hT An hT2 rb DM;go_wp2_with fail;obtain⟨hT,An⟩:=HT2.out;clear HT2 c2 f2;generalize(wr.setCell ⟨gm,2,J⟩ (aL (aE ⟨ga,0,J⟩) m m))=u0 at*;go_fit(Bl _);rintro e kZ ⟨rfl,hb'⟩;have hT':=hT.bel hb';have Tk:=bV An hb' (bT An);clear hT An hb';obtain⟨d0,e0,t0,Q3,aBg,hC⟩:=yP zR Eo hT'.e hT'.l hok;go_wp2_with fail;go_fit hC.out;rintro e kH ⟨rfl,hE',ha'⟩;have hT:=hT'.aw hE' ha';have An:=ha'.keep Tk (by omega);clear hT' Tk hC hE' ha';go_wp2_with fail;go_fit(Bl _);rintro e ua1 ⟨rfl,hb'⟩;have hT':=hT.bel hb';have Tk:=bV An hb' (bT An);clear hT An hb';obtain⟨d1,e1,t1,Q4,hok1,hC⟩:=yP zR Eo hT'.e hT'.l aBg;go_wp2_with fail;go_fit hC.out;rintro e ub1 ⟨rfl,hE',ha'⟩;have hT:=hT'.aw hE' ha';have An:=ha'.keep Tk (by omega);clear hT' Tk hC hE' ha';go_wp2_with fail;go_fit(Bl _);rintro e ua2 ⟨rfl,hb'⟩;have hT':=hT.bel hb';have Tk:=bV An hb' (bT An);clear hT An hb';obtain⟨d2,e2,t2,Q5,xU,hC⟩:=yP zR Eo hT'.e hT'.l hok1;go_wp2_with fail;go_fit hC.out;rintro e ub2 ⟨rfl,hE',ha'⟩;have hT:=hT'.aw hE' ha';have An:=ha'.keep Tk (by omega);clear hT' Tk hC hE' ha';have c3:=hT.cell (i:=3) D;have f3:=hT.free 3;have c4:=hT.cell (i:=4) D;have f4:=hT.free 4;have c5:=hT.cell (i:=5) D;have f5:=hT.free 5;have c6:=hT.cell (i:=6) D;have f6:=hT.free 6;have c7:=hT.cell (i:=7) D;have f7:=hT.free 7;have c8:=hT.cell (i:=8) D;have f8:=hT.free 8;have hT3:=((hT.set2 (by omega) 3 (aG d0) (O Y e0) _ D).set2 (by omega) 5 (aG d1) (O Y e1) _ D).set2 (by omega) 7 (aG d2) (O Y e2) #[aG b1,O Y n2,aL (aE ⟨ga,0,J⟩) m m,aG d0,O Y e0,aG d1,O Y e1,aG d2,O Y e2] D;have re:=(((sM gm 3 (aG d0) (O Y e0)).trans (sM gm 5 (aG d1) (O Y e1))).trans (sM gm 7 (aG d2) (O Y e2))).keep An (by omega);have HT3:Hid (TkB w 77 #[aG aD,O Y 0,aL J 0 0,aG aD,O Y 0,aG aD,O Y 0,aG aD,O Y 0] (w.heap.size+1) g gm t2 #[aG b1,O Y n2,aL (aE ⟨ga,0,J⟩) m m,aG d0,O Y e0,aG d1,O Y e1,aG d2,O Y e2] ((((((ub2.setCell ⟨gm,3,J⟩ (aG d0)).setCell ⟨gm,4,J⟩ (O Y e0)).setCell ⟨gm,5,J⟩ (aG d1)).setCell ⟨gm,6,J⟩ (O Y e1)).setCell ⟨gm,7,J⟩ (aG d2)).setCell ⟨gm,8,J⟩ (O Y e2))∧((((((ub2.setCell ⟨gm,3,J⟩ (aG d0)).setCell ⟨gm,4,J⟩ (O Y e0)).setCell ⟨gm,5,J⟩ (aG d1)).setCell ⟨gm,6,J⟩ (O Y e1)).setCell ⟨gm,7,J⟩ (aG d2)).setCell ⟨gm,8,J⟩ (O Y e2)).heap[ga]?=_):=bK (bO hT3 re)
   clear hT An hT3 re;go_wp2_with fail;obtain⟨hT,An⟩:=HT3.out;clear HT3 c3 c4 c5 c6 c7 c8 f3 f4 f5 f6 f7 f8;generalize((((((ub2.setCell ⟨gm,3,J⟩ (aG d0)).setCell ⟨gm,4,J⟩ (O Y e0)).setCell ⟨gm,5,J⟩ (aG d1)).setCell ⟨gm,6,J⟩ (O Y e1)).setCell ⟨gm,7,J⟩ (aG d2)).setCell ⟨gm,8,J⟩ (O Y e2))=u1 at*;go_fit(zI _ g t2 _ hT.e);rintro e vv ⟨rfl,rfl⟩;have hS:Gw l=(⟨b1,n2,X,[aG d0,O Y e0,aG d1,O Y e1,aG d2,O Y e2]⟩,t2.1):=by unfold Gw;simp only[←Q0.out,←Q1.out,←Q2.out,HX2.out.2,Q3.out,Q4.out,Q5.out,tR,dS,eF]
   have hV:=HV.out;rw[hS] at hV;simp only at hV;have HV2:=bK hV;obtain⟨hE,hres,hq,hb,hlo⟩:=hT;have HGA:=bK (bO An hlo.1);clear hS hV HV hE An;by_cases he:t2.1=0
   ·have zZ:(t2.1:Int)=0:=by omega
    rw[bY he,he] at HV2;clear he;go_wp2_with(with_reducible refine sG [77] ?_);refine eL (dI D _ _ D gm D _ _ _ _ hq lD D (by kernel_rfl) ?_);go_wp2_with(with_reducible refine sG [77] ?_);refine eL (bQ D _ _ _ D w.heap.size #[aG b1,O Y n2,aL (aE ⟨ga,0,J⟩) m m,aG d0,O Y e0,aG d1,O Y e1,aG d2,O Y e2] D D _ _ hres (by kernel_rfl) D (by kernel_rfl) ?_);have cS:=bW _ _ _ (#[aG b1,O Y n2,aL (aE ⟨ga,0,J⟩) m m,aG d0,O Y e0,aG d1,O Y e1,aG d2,O Y e2]:Array aT) _ _ hres;have hb5:=cB hb (bM _) (#[aG b1,O Y n2,aL (aE ⟨ga,0,J⟩) m m,aG d0,O Y e0,aG d1,O Y e1,aG d2,O Y e2]:Array aT);have MD:=(dZ w.heap.size (#[aG b1,O Y n2,aL (aE ⟨ga,0,J⟩) m m,aG d0,O Y e0,aG d1,O Y e1,aG d2,O Y e2]:Array aT)).keep HGA.out.1 (by omega);generalize(u1.setRow w.heap.size #[aG b1,O Y n2,aL (aE ⟨ga,0,J⟩) m m,aG d0,O Y e0,aG d1,O Y e1,aG d2,O Y e2])=v5 at*;simp only[Act.put];repeat go_step
    exact bR (cD D _ _ w.heap.size _ _ _ _ D cS lD D (by kernel_rfl)) D ⟨aE ⟨ga,0,J⟩,m,m,by rw[HV2.out];rfl,by rw[HV2.out];exact ZA X m ga _ _ HX2.out.1 XC MD,fun p hp=>(by injection hp with hp;rw[←hp];show w.heap.size≤ga;omega),XC,hb5⟩
   ·have zZ: ¬(t2.1:Int)=0:=by omega
    rw[bX he] at HV2;clear he hq;go_wp2_with(with_reducible refine sG [77] ?_);refine eL (bQ D _ _ _ D w.heap.size #[aG aD,O Y 0,aL J 0 0,aG aD,O Y 0,aG aD,O Y 0,aG aD,O Y 0] D D _ _ hres (by kernel_rfl) D (by kernel_rfl) ?_);have cS:=bW _ _ _ (#[aG aD,O Y 0,aL J 0 0,aG aD,O Y 0,aG aD,O Y 0,aG aD,O Y 0]:Array aT) _ _ hres;have hb5:=cB hb (bM _) (#[aG aD,O Y 0,aL J 0 0,aG aD,O Y 0,aG aD,O Y 0,aG aD,O Y 0]:Array aT);generalize(u1.setRow w.heap.size #[aG aD,O Y 0,aL J 0 0,aG aD,O Y 0,aG aD,O Y 0,aG aD,O Y 0])=v5 at*;simp only[Act.put];repeat go_step
    exact bR (cD D _ _ w.heap.size _ _ _ _ D cS lD D (by kernel_rfl)) D ⟨J,0,0,by rw[HV2.out];rfl,by rw[HV2.out];exact iH _ _ _,fun p hp=>(by cases hp),by omega,hb5⟩
end
section
open Go.RowKit NumLaw
attribute [local go_sem] Addr.add_mid
abbrev iF:=@underlying334
abbrev mR:=@ntmps179
abbrev nT:=@func179
theorem iC{P:aZ}{fn:Func}{p q r:Tmp}{ty:aY}(h:fn.results= #[.cell p ty,.tmp q,.tmp r])(tmps:Array aT)(w:aS)(g:Nat)(t:aY)(cs:Array aT)(fr:Nat × Nat)(d:TypeDesc)
  (hp:tmps.getD p undef=aK (aE ⟨g,0,J⟩)) (hg:w.heap[g]?=aE (aI cs t fr))
  (hu:P.underlying ty=aE d) (hd:(match d with| .struct _| .array _ _=>aF|_=>aD)=aF) (hi:(P.info? ty).map (·.size)=aE cs.size):
  (results fn tmps).run P w= .ok (aN #[.agg cs,tmps.getD q undef,tmps.getD r undef]) w:=by
 have yC:tmps[p]?.getD undef=aK (aE ⟨g,0,J⟩):=by simpa using hp
 simp[results,h,yC,asAddr,mL w g t ty cs fr d hg hu hd hi]
theorem Ja: ∀(l acc:List UInt8),(vN acc l).length≤l.length+1
 | [],acc=>by simp[vN]
 |c::l,acc=>by
  unfold vN;split
  ·have:=Ja l [];simp only[dM];omega
  ·have:=Ja l (acc++ [c]);simp only[dM];omega
theorem B7{w w':aS}{base g:Nat}{e:aY}{size n:Nat}{v:aT}{xs:List aT}(h:w.ownsRow base e size v n xs)(ha:Aw (fun j=>j=g) w w')(hg:g<base):w'.ownsRow base e size v n xs:=by
 refine⟨h.1,?_⟩;rcases h.2 with h2|⟨g',cap,cur,hv,jc,hh,r⟩
 ·exact .inl h2
 ·exact .inr ⟨g',cap,cur,hv,jc,ha.keep hh (by omega),r⟩
def y7(S:Cz)(A:Option aW)(n c:Nat):List aT:= [aH S.tk,aH S.ty,aL A n c]
def ae(w:aS)(S:Cz)(e:aX)(w':aS):Prop:=
 ∃A n c,e=aJ (aN #[aM (y7 S A n c).toArray,O Y (S.size:Int),O Y (S.err:Int)])∧Rd w' w'.heap.size 1 A n c (nY S.f)∧(∀p,A=aE p→w.heap.size≤p.block)∧n≤1000∧aV w.heap.size w w'
theorem Re(t:ByteArray)(hz:t.size≤1000)(w:aS):aU bH 179 #[aH t] w (ae w (mT (sb t))):=by
 have hres:=bS w (aI #[aH ⟨#[]⟩,aH ⟨#[]⟩,aL J 0 0] 334);have hb:aV w.heap.size w (w.alloc (aI #[aH ⟨#[]⟩,aH ⟨#[]⟩,aL J 0 0] 334)):=(bP _ _).alloc (bM _) _;by_cases h0:t.size=0
 ·have e0:t.toList= []:=by rw[dR];exact(lQ t).2 h0
  have HV:Hid (mT (sb t)=Bo 2):=bK (by unfold mT;rw[bY ((lQ t).2 h0)]);clear h0;go_enter nT,mR;go_wp2_with(with_reducible refine sG [334] ?_);refine eL (bQ D _ _ _ D w.heap.size #[aH ⟨#[]⟩,aH ⟨#[]⟩,aL J 0 0] D D _ _ hres (by kernel_rfl) D (by kernel_rfl) ?_);have cS:=bW _ _ _ (#[aH ⟨#[]⟩,aH ⟨#[]⟩,aL J 0 0]:Array aT) _ _ hres;have hb5:=cB hb (bM _) (#[aH ⟨#[]⟩,aH ⟨#[]⟩,aL J 0 0]:Array aT);simp only[Act.put];repeat go_step
  exact bR (iC D _ _ w.heap.size _ _ _ _ D cS iF D (by kernel_rfl)) D ⟨J,0,0,by rw[HV.out];rfl,by rw[HV.out];exact iH _ _ _,fun p hp=>(by cases hp),by omega,hb5⟩
 have hne:sb t≠ []:=fun h=>h0 ((lQ t).1 h);have e0:=pZ h0;have i0:(0:Int)<(t.size:Int):=by omega
 have j0:0<t.size:=by omega
 have G5:(sb t).head?=aE t[0]:=by have e:=qF t 0 j0;rw[iN] at e;rw[e];rfl
 by_cases Xb:t[0]=36
 case neg=>
  have k36: ¬(t[0].toNat:Int)=36:=fun e=>Xb (UInt8.toNat_inj.1 (by simpa using(by omega:t[0].toNat=36)));have HV:Hid (mT (sb t)=Bo 3):=bK (by unfold mT;rw[bX hne,G5,bY (by intro e;injection e with e;exact Xb e)]);clear Xb G5 hne;go_enter nT,mR;go_wp2_with(with_reducible refine sG [334] ?_);refine eL (bQ D _ _ _ D w.heap.size #[aH ⟨#[]⟩,aH ⟨#[]⟩,aL J 0 0] D D _ _ hres (by kernel_rfl) D (by kernel_rfl) ?_);have cS:=bW _ _ _ (#[aH ⟨#[]⟩,aH ⟨#[]⟩,aL J 0 0]:Array aT) _ _ hres;have hb5:=cB hb (bM _) (#[aH ⟨#[]⟩,aH ⟨#[]⟩,aL J 0 0]:Array aT);simp only[Act.put];repeat go_step
  exact bR (iC D _ _ w.heap.size _ _ _ _ D cS iF D (by kernel_rfl)) D ⟨J,0,0,by rw[HV.out];rfl,by rw[HV.out];exact iH _ _ _,fun p hp=>(by cases hp),by omega,hb5⟩
 have k36:(t[0].toNat:Int)=36:=by rw[Xb];rfl
 obtain⟨E,hE⟩: ∃E,E=jW 80 ((sb t).drop 1):=⟨_,D⟩
 have G7:mT (sb t)=(if E.1≠0 then Bo E.1 else if(sb t).length<E.2+3 then Bo 2 else
   if(sb t)[E.2+2]?≠aE 10∨yG (((sb t).drop 1).take E.2)=aD then Bo 3 else
   if Rx (((sb t).drop 1).take E.2)=aD then Bo 4 else
   ⟨0,E.2+3,K9 ((((sb t).drop 1).take E.2).take 2),K9 (((((sb t).drop 1).take E.2).take 5).drop 2),
    if E.2=8 then [] else(vN [] (((((sb t).drop 1).take E.2).take (E.2-3)).drop 6)).map K9⟩):=by
  unfold mT;rw[bX hne,G5,bX (by rw[Xb];simp),←hE]
 have hl:=JP t (by omega) (by omega);rw[←hE] at hl;unfold Mf at hl;by_cases hE0:E.1=0
 case neg=>
  rw[bX hE0] at hl;have HL:=bK hl;have HV:Hid (mT (sb t)=Bo E.1):=bK (by rw[G7,bY hE0]);obtain⟨q,hq⟩: ∃q,q=E.1:=⟨_,D⟩;rw[←hq] at HL HV hE0;have OC: ¬(q:Int)=0:=by omega
  clear hl G7 hE G5 hne hq hE0;go_enter nT,mR;go_wp2_with fail;go_fit(HL.out _);rintro e w1 ⟨rfl,rfl⟩;clear HL;go_wp2_with(with_reducible refine sG [334] ?_);refine eL (bQ D _ _ _ D w.heap.size #[aH ⟨#[]⟩,aH ⟨#[]⟩,aL J 0 0] D D _ _ hres (by kernel_rfl) D (by kernel_rfl) ?_);have cS:=bW _ _ _ (#[aH ⟨#[]⟩,aH ⟨#[]⟩,aL J 0 0]:Array aT) _ _ hres;have hb5:=cB hb (bM _) (#[aH ⟨#[]⟩,aH ⟨#[]⟩,aL J 0 0]:Array aT);simp only[Act.put];repeat go_step
  exact bR (iC D _ _ w.heap.size _ _ _ _ D cS iF D (by kernel_rfl)) D ⟨J,0,0,by rw[HV.out];rfl,by rw[HV.out];exact iH _ _ _,fun p hp=>(by cases hp),by omega,hb5⟩
 rw[bY hE0] at hl;rw[bX (fun h=>h hE0)] at G7;have fF:=Jy 80 ((sb t).drop 1);have G6:=Gf 80 ((sb t).drop 1);have rl:=Ru 80 ((sb t).drop 1);rw[←hE] at fF G6 rl;replace fF:=fF hE0;rw[iA,iI] at fF;obtain⟨K,hK⟩: ∃K,K=E.2:=⟨_,D⟩;rw[←hK] at hl G7 fF G6 rl;rw[hE0] at hl;obtain⟨l,hle⟩: ∃l,l=t.extract 1 (K+1):=⟨_,D⟩;have je:l.size=K:=by rw[hle,eH];omega
 have rm:sb l=((sb t).drop 1).take K:=by rw[hle,mY,List.take_drop];congr 2;omega
 rw[←rm] at G7 G6;rw[←hle] at hl;have HL:=bK hl;have aIz:(l.size:Int)=(K:Int):=by omega
 clear hE hE0 hK hle hl rm;rw[iI] at G7;by_cases iJ:t.size<K+3
 ·have HV:Hid (mT (sb t)=Bo 2):=bK (by rw[G7,bY iJ]);have i1:(t.size:Int)<1+(K:Int)+2:=by omega
  clear G7 G5 hne;go_enter nT,mR;go_wp2_with fail;go_fit(HL.out _);rintro e w1 ⟨rfl,rfl⟩;clear HL;go_wp2_with(with_reducible refine sG [334] ?_);refine eL (bQ D _ _ _ D w.heap.size #[aH ⟨#[]⟩,aH ⟨#[]⟩,aL J 0 0] D D _ _ hres (by kernel_rfl) D (by kernel_rfl) ?_);have cS:=bW _ _ _ (#[aH ⟨#[]⟩,aH ⟨#[]⟩,aL J 0 0]:Array aT) _ _ hres;have hb5:=cB hb (bM _) (#[aH ⟨#[]⟩,aH ⟨#[]⟩,aL J 0 0]:Array aT);simp only[Act.put];repeat go_step
  exact bR (iC D _ _ w.heap.size _ _ _ _ D cS iF D (by kernel_rfl)) D ⟨J,0,0,by rw[HV.out];rfl,by rw[HV.out];exact iH _ _ _,fun p hp=>(by cases hp),by omega,hb5⟩
 rw[bX iJ] at G7;have i1: ¬(t.size:Int)<1+(K:Int)+2:=by omega
 have hx:=yQ t (K+2) (by omega);rw[hx] at G7;have yM:K+2<t.size:=by omega
 obtain⟨y,hy⟩: ∃y,y=t[K+2]:=⟨_,D⟩;rw[←hy] at G7;have j1:1+(K:Int)+2-1=((K+2:Nat):Int):=by omega
 have j2:((K+2:Nat):Int)<(t.size:Int):=by omega
 by_cases Pk:y=10
 case neg=>
  have HV:Hid (mT (sb t)=Bo 3):=bK (by rw[G7,bY (.inl (by intro e;injection e with e;exact Pk e))]);have k10: ¬(t[K+2].toNat:Int)=10:=fun e=>Pk (by rw[hy];exact UInt8.toNat_inj.1 (by simpa using(by omega:t[K+2].toNat=10)));clear G7 G5 hne hx hy Pk;go_enter nT,mR;go_wp2_with fail;go_fit(HL.out _);rintro e w1 ⟨rfl,rfl⟩;clear HL;go_wp2_with(with_reducible refine sG [334] ?_);refine eL (bQ D _ _ _ D w.heap.size #[aH ⟨#[]⟩,aH ⟨#[]⟩,aL J 0 0] D D _ _ hres (by kernel_rfl) D (by kernel_rfl) ?_);have cS:=bW _ _ _ (#[aH ⟨#[]⟩,aH ⟨#[]⟩,aL J 0 0]:Array aT) _ _ hres;have hb5:=cB hb (bM _) (#[aH ⟨#[]⟩,aH ⟨#[]⟩,aL J 0 0]:Array aT);simp only[Act.put];repeat go_step
  exact bR (iC D _ _ w.heap.size _ _ _ _ D cS iF D (by kernel_rfl)) D ⟨J,0,0,by rw[HV.out];rfl,by rw[HV.out];exact iH _ _ _,fun p hp=>(by cases hp),by omega,hb5⟩
 have j3:(t[K+2].toNat:Int)=10:=by rw[←hy,Pk];rfl
 rw[Pk] at G7;have hF:=fun w=>Ww l G6 (by omega) w
 cases hfv:yG (sb l) with
 |false=>
  have HV:Hid (mT (sb t)=Bo 3):=bK (by rw[G7,bY (.inr hfv)]);rw[hfv] at hF;have HF:=bK hF;clear G7 G5 hne hx hy Pk hF hfv;go_enter nT,mR;go_wp2_with fail;go_fit(HL.out _);rintro e w1 ⟨rfl,rfl⟩;clear HL;go_wp2_with fail;go_fit(HF.out _);rintro e w1 ⟨rfl,hb'⟩;replace hres:=bV hres hb' (bT hres);replace hb:=eI hb hb';clear HF hb';go_wp2_with(with_reducible refine sG [334] ?_);refine eL (bQ D _ _ _ D w.heap.size #[aH ⟨#[]⟩,aH ⟨#[]⟩,aL J 0 0] D D _ _ hres (by kernel_rfl) D (by kernel_rfl) ?_);have cS:=bW _ _ _ (#[aH ⟨#[]⟩,aH ⟨#[]⟩,aL J 0 0]:Array aT) _ _ hres;have hb5:=cB hb (bM _) (#[aH ⟨#[]⟩,aH ⟨#[]⟩,aL J 0 0]:Array aT);simp only[Act.put];repeat go_step
  exact bR (iC D _ _ w.heap.size _ _ _ _ D cS iF D (by kernel_rfl)) D ⟨J,0,0,by rw[HV.out];rfl,by rw[HV.out];exact iH _ _ _,fun p hp=>(by cases hp),by omega,hb5⟩
 |true=>
  obtain⟨f8,f42,f44⟩:=GW hfv;rw[iI] at f8 f42;rw[bX (fun h=>by rcases h with h|h;exact h D;rw[hfv] at h;cases h)] at G7;rw[hfv] at hF;have HF:=bK hF;obtain⟨n,hn⟩: ∃n,l.size=n+3:=⟨l.size-3,by omega⟩;have hO:=fun w=>Zq l n hn (by rw[←f42];congr 1;omega) G6 (by omega) w;clear hF hfv f42 f44
  cases hov:Rx (sb l) with
  |false=>
   have HV:Hid (mT (sb t)=Bo 4):=bK (by rw[G7,bY hov]);rw[hov] at hO;simp only[iG,sD] at hO;have HO:=bK hO;clear G7 G5 hne hx hy Pk hO hov hn f8;go_enter nT,mR;go_wp2_with fail;go_fit(HL.out _);rintro e w1 ⟨rfl,rfl⟩;clear HL;go_wp2_with fail;go_fit(HF.out _);rintro e w1 ⟨rfl,hb'⟩;replace hres:=bV hres hb' (bT hres);replace hb:=eI hb hb';clear HF hb';go_wp2_with fail;go_fit(HO.out _);rintro e w2 ⟨rfl,hb'⟩;replace hres:=bV hres hb' (bT hres);replace hb:=eI hb hb';clear HO hb';go_wp2_with(with_reducible refine sG [334] ?_);refine eL (bQ D _ _ _ D w.heap.size #[aH ⟨#[]⟩,aH ⟨#[]⟩,aL J 0 0] D D _ _ hres (by kernel_rfl) D (by kernel_rfl) ?_);have cS:=bW _ _ _ (#[aH ⟨#[]⟩,aH ⟨#[]⟩,aL J 0 0]:Array aT) _ _ hres;have hb5:=cB hb (bM _) (#[aH ⟨#[]⟩,aH ⟨#[]⟩,aL J 0 0]:Array aT);simp only[Act.put];repeat go_step
   exact bR (iC D _ _ w.heap.size _ _ _ _ D cS iF D (by kernel_rfl)) D ⟨J,0,0,by rw[HV.out];rfl,by rw[HV.out];exact iH _ _ _,fun p hp=>(by cases hp),by omega,hb5⟩
  |true=>
   rw[bX (by rw[hov];decide)] at G7;rw[hov] at hO;simp only[qK] at hO;obtain⟨body,rn⟩: ∃body,body=l.extract 0 n:=⟨_,D⟩;rw[←rn] at hO;have hbs:body.size=n:=by rw[rn,eH];omega
   have ME:sb body=(sb l).take n:=by rw[rn,mY,iN]
   have hn5:5≤n:=by omega
   have hnK:K=n+3:=by omega
   obtain⟨tk,htk⟩: ∃tk,tk=body.extract 0 2:=⟨_,D⟩;obtain⟨ty,xc⟩: ∃ty,ty=body.extract 2 5:=⟨_,D⟩;have etk:K9 ((sb l).take 2)=tk:=by rw[htk];refine Ul ?_;rw[Un,mY,iN,ME,List.take_take];congr 1;omega
   have ety:K9 (((sb l).take 5).drop 2)=ty:=by rw[xc];refine Ul ?_;rw[Un,mY,ME,List.take_take];congr 2;omega
   rw[etk,ety] at G7;have HO:=bK hO;have aI1:(body.size:Int)=(n:Int):=by omega
   have m1:(2:Int)≤(n:Int):=by omega
   have m2:(5:Int)≤(n:Int):=by omega
   have HTT:=bK (bO htk xc);have dq:True:=cM;by_cases xd:n=5
   ·have m3: ¬(5:Int)<(n:Int):=by omega
    have HV:Hid (mT (sb t)=⟨0,K+3,tk,ty,[]⟩):=bK (by rw[G7,bY (by omega)]);clear G7 G5 hne hx hy Pk hO hov hn f8 etk ety htk xc rn ME xd hnK;go_enter nT,mR;go_wp2_with fail;go_fit(HL.out _);rintro e w1 ⟨rfl,rfl⟩;clear HL;go_wp2_with fail;go_fit(HF.out _);rintro e w1 ⟨rfl,hb'⟩;replace hres:=bV hres hb' (bT hres);replace hb:=eI hb hb';clear HF hb';go_wp2_with fail;go_fit(HO.out _);rintro e w2 ⟨rfl,hb'⟩;replace hres:=bV hres hb' (bT hres);replace hb:=eI hb hb';clear HO hb';go_wp2_with fail;refine cQ (fun _=>True) aD [] (by kernel_rfl) (by kernel_rfl) cM ?_;replace hres:w2.drew.heap[w.heap.size]?=_:=hres;replace hb:=hb.drew;generalize w2.drew=w3 at*;iterate 5 refine Ord.K ?_
    have aBn:=bT hres;have Cq:=bS w3 (aI #[aH ⟨#[]⟩,aH ⟨#[]⟩,aL J 0 0] 334);have hbx:aV w3.heap.size w3 (w3.alloc (aI #[aH ⟨#[]⟩,aH ⟨#[]⟩,aL J 0 0] 334)):=(bP _ _).alloc (bM _) _;replace hres:=bV hres hbx (bT hres);replace hb:=eI hb hbx;have Kn:=bT hres;refine Ord.X ?_;go_wp2_with fail;refine cC cM (fun h=>by cases h) ?_;refine PT ?_;clear hbx;refine Ord.X ?_;refine bQ D _ _ _ D w3.heap.size #[aH (body.extract 0 2),aH (body.extract 2 5),aL J 0 0] D D _ _ Cq (by kernel_rfl) D (by kernel_rfl) ?_;have hg4:=bW _ _ _ (#[aH (body.extract 0 2),aH (body.extract 2 5),aL J 0 0]:Array aT) _ _ Cq;have haw:=dZ (w:=w3.alloc (aI #[aH ⟨#[]⟩,aH ⟨#[]⟩,aL J 0 0] 334)) w3.heap.size (#[aH (body.extract 0 2),aH (body.extract 2 5),aL J 0 0]:Array aT);have fM:=haw.keep hres (by omega);have hb4:=cJ hb haw (fun k hk=>by rw[hk];omega);clear Cq hres hb haw;go_wp2_with fail;refine cC cM (fun h=>by cases h) ?_;refine PT ?_;refine cV ?_;generalize((w3.alloc (aI #[aH ⟨#[]⟩,aH ⟨#[]⟩,aL J 0 0] 334)).setRow w3.heap.size #[aH (body.extract 0 2),aH (body.extract 2 5),aL J 0 0])=w4 at*;generalize w3.heap.size=g3 at*;have hg5:=hg4;have cS:=fM;have hb5:=hb4;clear hg4 fM hb4;go_wp2_with(with_reducible refine sG [334] ?_);refine eL (dI D _ _ D g3 D _ _ _ _ hg5 iF D (by kernel_rfl) ?_);go_wp2_with(with_reducible refine sG [334] ?_);refine eL (bQ D _ _ _ D w.heap.size #[aH (body.extract 0 2),aH (body.extract 2 5),aL J 0 0] D D _ _ cS (by kernel_rfl) D (by kernel_rfl) ?_);have iW:=bW _ _ _ (#[aH (body.extract 0 2),aH (body.extract 2 5),aL J 0 0]:Array aT) _ _ cS;have hb6:=cB hb5 (bM _) (#[aH (body.extract 0 2),aH (body.extract 2 5),aL J 0 0]:Array aT);simp only[Act.put];repeat go_step
    exact bR (iC D _ _ w.heap.size _ _ _ _ D iW iF D (by kernel_rfl)) D ⟨J,0,0,by rw[HV.out,HTT.out.1,HTT.out.2];simp[y7];omega,by rw[HV.out];exact iH _ _ _,fun p hp=>(by cases hp),by omega,hb6⟩
   ·have m3:(5:Int)<(n:Int):=by omega
    have m4:(6:Int)≤(n:Int):=by omega
    have m5:(0:Int)≤6:=by omega
    obtain⟨rest,Y8⟩: ∃rest,rest=body.extract 6 body.size:=⟨_,D⟩;have ers:((sb l).take (K-3)).drop 6=sb rest:=by rw[Y8,y8,ME];congr 2;omega
    have hrs:rest.size≤999:=by rw[Y8,eH];omega
    obtain⟨F,hF⟩: ∃F,F=(vN [] (sb rest)).map K9:=⟨_,D⟩;have HV:Hid (mT (sb t)=⟨0,K+3,tk,ty,F⟩):=bK (by rw[G7,bX (by omega),ers,hF]);have hC:=fun w=>SO rest (by omega) w;rw[←hF,Y8,hbs] at hC;have hFl:F.length≤1000:=by rw[hF,dA];exact bU (Ja _ _) (by rw[iI];omega)
    have HC:=bK hC;clear hC hF hrs ers Y8;clear G7 G5 hne hx hy Pk hO hov hn f8 etk ety htk xc rn ME xd hnK;go_enter nT,mR;go_wp2_with fail;go_fit(HL.out _);rintro e w1 ⟨rfl,rfl⟩;clear HL;go_wp2_with fail;go_fit(HF.out _);rintro e w1 ⟨rfl,hb'⟩;replace hres:=bV hres hb' (bT hres);replace hb:=eI hb hb';clear HF hb';go_wp2_with fail;go_fit(HO.out _);rintro e w2 ⟨rfl,hb'⟩;replace hres:=bV hres hb' (bT hres);replace hb:=eI hb hb';clear HO hb';go_wp2_with fail;refine cQ (fun _=>True) aD [] (by kernel_rfl) (by kernel_rfl) cM ?_;replace hres:w2.drew.heap[w.heap.size]?=_:=hres;replace hb:=hb.drew;generalize w2.drew=w3 at*;iterate 5 refine Ord.K ?_
    have aBn:=bT hres;have Cq:=bS w3 (aI #[aH ⟨#[]⟩,aH ⟨#[]⟩,aL J 0 0] 334);have hbx:aV w3.heap.size w3 (w3.alloc (aI #[aH ⟨#[]⟩,aH ⟨#[]⟩,aL J 0 0] 334)):=(bP _ _).alloc (bM _) _;replace hres:=bV hres hbx (bT hres);replace hb:=eI hb hbx;have Kn:=bT hres;refine Ord.X ?_;go_wp2_with fail;refine cC cM (fun h=>by cases h) ?_;refine PT ?_;clear hbx;refine Ord.X ?_;refine bQ D _ _ _ D w3.heap.size #[aH (body.extract 0 2),aH (body.extract 2 5),aL J 0 0] D D _ _ Cq (by kernel_rfl) D (by kernel_rfl) ?_;have hg4:=bW _ _ _ (#[aH (body.extract 0 2),aH (body.extract 2 5),aL J 0 0]:Array aT) _ _ Cq;have haw:=dZ (w:=w3.alloc (aI #[aH ⟨#[]⟩,aH ⟨#[]⟩,aL J 0 0] 334)) w3.heap.size (#[aH (body.extract 0 2),aH (body.extract 2 5),aL J 0 0]:Array aT);have fM:=haw.keep hres (by omega);have hb4:=cJ hb haw (fun k hk=>by rw[hk];omega);clear Cq hres hb haw;go_wp2_with fail;refine cC cM (fun h=>by cases h) ?_;refine PT ?_;refine cV ?_;generalize((w3.alloc (aI #[aH ⟨#[]⟩,aH ⟨#[]⟩,aL J 0 0] 334)).setRow w3.heap.size #[aH (body.extract 0 2),aH (body.extract 2 5),aL J 0 0])=w4 at*;generalize w3.heap.size=g3 at*;go_wp2_with fail;go_fit(HC.out _);rintro e w5 ⟨A2,n2,c2,rfl,hown,xT,hbx⟩;have hg5:=bV hg4 hbx (bT hg4);have cS:=bV fM hbx (bT fM);have hb5:=eI hb4 hbx;have Pf:=bT hg4;have c2c:=bL (i:=2) (v:=aL J 0 0) hg5 D;have c2f:=bZ (i:=2) hg5;have haw:=gO (w:=w5) g3 2 (aL A2 n2 c2);have hg6:=cN (i:=2) hg5 (aL A2 n2 c2);simp only[cE,cW,cX] at hg6;have iW:=haw.keep cS (by omega);have hb6:=cJ hb5 haw (fun k hk=>by rw[hk];omega);have E4:=B7 hown haw (by omega);have HY:=bK (bO hg6 (bO iW (bO hb6 E4)));clear hg4 fM hb4 hg5 cS hb5 hbx haw hg6 iW hb6 E4 hown;go_wp2_with(with_reducible refine sG [334] ?_);obtain⟨hg5,cS,hb5,Tf⟩:=HY.out;clear HY c2c c2f;generalize(w5.setCell ⟨g3,2,J⟩ (aL A2 n2 c2))=w6 at*;refine eL (dI D _ _ D g3 D _ _ _ _ hg5 iF D (by kernel_rfl) ?_);go_wp2_with(with_reducible refine sG [334] ?_);refine eL (bQ D _ _ _ D w.heap.size #[aH (body.extract 0 2),aH (body.extract 2 5),aL A2 n2 c2] D D _ _ cS (by kernel_rfl) D (by kernel_rfl) ?_)
    have iW:=bW _ _ _ (#[aH (body.extract 0 2),aH (body.extract 2 5),aL A2 n2 c2]:Array aT) _ _ cS;have hb6:=cB hb5 (bM _) (#[aH (body.extract 0 2),aH (body.extract 2 5),aL A2 n2 c2]:Array aT);have E4:=B7 Tf (dZ (w:=w6) w.heap.size (#[aH (body.extract 0 2),aH (body.extract 2 5),aL A2 n2 c2]:Array aT)) (by omega);have hA2: ∀p,A2=aE p→w.heap.size≤p.block:=fun p hp=>by have:=eU E4 (k:=p.block) (by rw[hp];rfl);omega
    simp only[Act.put];repeat go_step
    exact bR (iC D _ _ w.heap.size _ _ _ _ D iW iF D (by kernel_rfl)) D ⟨A2,n2,c2,by rw[HV.out,HTT.out.1,HTT.out.2];simp[y7];omega,by rw[HV.out];exact oA E4,hA2,by omega,hb6⟩
end
section
open Go.RowKit NumLaw
structure Kh where
 A:Option aW
 n:Nat
 c:Nat
 A':Option aW
 n':Nat
 c':Nat
def jH:Kh:=⟨J,0,0,J,0,0⟩
def iE(V:En)(a:Kh):List aT:=O Y (V.k:Int)::aH V.tk::(V.gga++(V.rmc++(C8 V.gsa a.A a.n a.c++(V.vtg++Gl V.gsv a.A' a.n' a.c'))))
def Ones(l:List aT):Prop:= ∀v∈l,v.oneCell'=aF
theorem Ones.app{a b:List aT}(ha:Ones a)(hb:Ones b):Ones (a++b):=fun v hv=>by
 rcases List.mem_append.1 hv with h|h
 ·exact ha v h
 ·exact hb v h
theorem Ones.cons{a:aT}{b:List aT}(ha:a.oneCell'=aF)(hb:Ones b):Ones (a::b):=fun v hv=>by
 rcases List.mem_cons.1 hv with rfl|h
 ·exact ha
 ·exact hb v h
theorem Ones.of{l:List aT}(h:l.all (·.oneCell')=aF):Ones l:=fun v hv=>List.all_eq_true.1 h v hv
theorem Ones.nil:Ones []:=fun v hv=>by cases hv
theorem Ones.all{l:List aT}(h:Ones l):l.toArray.all (·.oneCell')=aF:=by
 rw[Array.all_eq_true];intro i hi;exact h _ (oZ _)
structure NmOk(V:En):Prop where
 g:V.gga.length=22∧Ones V.gga
 r:V.rmc.length=20∧Ones V.rmc
 s:V.gsa.dops.length=6∧Ones V.gsa.dops
 v:V.vtg.length=8∧Ones V.vtg
theorem O1{v:N5}{A:Option aW}{n c:Nat}(h:Ones v.dops):Ones (C8 v A n c):= .cons D (.cons D (.cons D h))
theorem Ns{v:Oe}{A:Option aW}{n c:Nat} :Ones (Gl v A n c):= .cons D (.cons D (.cons D (.cons D .nil)))
theorem NmOk.len{V:En}(h:NmOk V)(a:Kh):(iE V a).length=65:=by
 simp[iE,C8,Gl,h.g.1,h.r.1,h.s.1,h.v.1]
theorem NmOk.one{V:En}(h:NmOk V)(a:Kh):Ones (iE V a):= .cons D (.cons D (h.g.2.app (h.r.2.app ((O1 h.s.2).app (h.v.2.app Ns)))))
theorem nm0_ok:NmOk nm0:=by
 exact⟨⟨D,.of D⟩,⟨D,.of D⟩,⟨D,.of D⟩,⟨D,.of D⟩⟩
structure NmR(w:aS)(B:Nat)(V:En)(a:Kh):Prop where
 s:Rd w B 1 a.A a.n a.c (V.gsa.ids.map (Value.int Y))
 q:RdR w B 8 a.A' a.n' a.c' V.gsv.l
theorem NmR.nil(w:aS)(B:Nat)(V:En)(h:V.gsa.ids= [])(h':V.gsv.l= []):NmR w B V jH:=⟨by rw[h];exact iH _ _ _,by rw[h'];exact kR _ _ _⟩
theorem NmR.up{w w':aS}{B:Nat}{V:En}{a:Kh}(h:NmR w B V a)(hb:aV B w w'):NmR w' B V a:=⟨h.s.up hb,h.q.up hb⟩
theorem NmR.more{w:aS}{B B':Nat}{V:En}{a:Kh}(h:NmR w B V a)(hB:B≤B'):NmR w B' V a:=⟨h.s.more hB,h.q.more hB⟩
theorem NmR.nx{w w':aS}{V:En}{a:Kh}(h:NmR w w.heap.size V a)(hb:aV w.heap.size w w'):NmR w' w'.heap.size V a:=(h.up hb).more hb.size
def NmB(w:aS)(g:Nat)(V:En)(a:Kh):Prop:=w.heap[g]?=aE (aI (iE V a).toArray 84)
def Se(V:En)(a:Kh)(V':En)(a':Kh)(o:Nat)(vs:List aT):Prop:=
 ∃pre olds post,iE V a=pre++(olds++post)∧iE V' a'=pre++(vs++post)∧pre.length=o∧olds.length=vs.length
theorem Dp(g:Nat): ∀(vs:List aT) (k:Nat) (w:aS),Aw (fun j=>j=g) w (w.setCells g k vs)
 | [],_,w=>cY _ w
 |v::vs,k,w=>(Aw.set (U:=fun j=>j=g) (cY _ w) (p:=⟨g,k,J⟩) v D).trans (Dp g vs (k+1) _)
theorem Ch{b:Nat}{t:aY} : ∀(vs pre olds post:List aT) (w:aS),w.heap[b]?=aE (aI (pre++(olds++post)).toArray t)→olds.length=vs.length→(w.setCells b pre.length vs).heap[b]?=aE (aI (pre++(vs++post)).toArray t)
 | [],pre,olds,post,w,h,hl=>by obtain rfl:olds= []:=cU (by simpa using hl);exact h
 |v::vs,pre,[],post,w,h,hl=>by simp at hl
 |v::vs,pre,x::olds,post,w,h,hl=>by
  have h1:=cN (i:=pre.length) h v;have e1:(pre++(x::olds++post)).toArray.setIfInBounds pre.length v=((pre++ [v])++(olds++post)).toArray:=by simp
  rw[e1] at h1;have:=Ch vs (pre++ [v]) olds post _ h1 (by simpa using hl);unfold World.setCells;simpa using this
theorem NmB.there{w:aS}{g:Nat}{V:En}{a:Kh}(h:NmB w g V a)(hok:NmOk V){o n:Nat}(hn:o+n≤65):w.there g o n:=by
 intro j hj;have hl:=hok.len a;refine⟨?_,bZ h⟩;have: ∃v,(iE V a)[o+j]?=aE v:=⟨_,cF (by omega)⟩;obtain⟨v,hv⟩:=this;rw[bL (i:=o+j) (v:=v) h (by rw[dO];exact hv)];rfl
theorem NmB.set{w:aS}{g o:Nat}{V V':En}{a a':Kh}{vs:List aT}(h:NmB w g V a)(e:Se V a V' a' o vs):NmB (w.setCells g o vs) g V' a'∧Aw (fun k=>k=g) w (w.setCells g o vs):=by
 obtain⟨pre,olds,post,h1,h2,rfl,h4⟩:=e;refine⟨?_,Dp g vs _ w⟩;unfold NmB at h ⊢;rw[h1] at h;rw[h2];exact Ch vs pre olds post w h h4
abbrev kX:=@nm0_ok
abbrev rJ:=@NmR.nil
end
section
open Go.RowKit NumLaw
attribute [local go_sem] Addr.add_mid
attribute [-go_sem] run_eql_struct run_neq_struct
abbrev dJ:=@underlying84
abbrev gK:=@wpList_store_mid
abbrev iL:=@List.toList_toArray
abbrev vJ:=@ntmps235
abbrev wN:=@func235
theorem Dc:bI=(iE nm0 jH).toArray:=by kernel_rfl
theorem Eu(tk:ByteArray):Tryz.zeroCells84.setIfInBounds 1 (aH tk)=(iE { nm0 with tk:=tk } jH).toArray:=by kernel_rfl
theorem eO{V:En}(a:Kh)(h:NmOk V):(Tryz.prog.info? 84).map (·.size)=aE (iE V a).toArray.size:=by rw[cG,h.len];kernel_rfl
theorem nL{V:En}(a:Kh)(h:NmOk V):(bI).size=(iE V a).toArray.size:=by
 have e:(bI).size=65:=by kernel_rfl
 have e2:(iE V a).toArray.size=65:=by rw[cG,h.len]
 rw[e,e2]
theorem Ep{w:aS}{g:Nat}{V:En}{a:Kh}(h:NmB w g V a)(k:Nat):NmB (w.setCell ⟨g,0,J⟩ (O Y (k:Int))) g { V with k:=k } a:=by
 have:=cN (i:=0) h (O Y (k:Int));unfold NmB;rw[this];congr 2
theorem tU{w:aS}{g e:Nat}{L:List aT}(h:w.heap[g]?=aE (aI L.toArray e)):w.rangeAt g 0 L:=jT h 0 (fun j v hv=>by rw[fZ,dO];exact hv)
theorem bc(v:aT)(w:aS):(Instr.typeAssert (.iface 478 v) 431 478 aF).run bH w= .ok (aN #[v,aG aF]) w:=by kernel_rfl
theorem YL(v:aT)(w:aS):(Instr.typeAssert (.iface 482 v) 431 478 aF).run bH w= .ok (aN #[aM #[aG aD,O Y 0,O Y 0,O Y 0,O Y 0,aG aD,O Y 0,aG aD,O Y 0,O Y 0,aG aD,O Y 0,aG aD,O Y 0,aG aD,O Y 0,aG aD,O Y 0,aG aD,O Y 0,aG aD,O Y 0],aG aD]) w:=by kernel_rfl
theorem ZD(v:aT)(w:aS):(Instr.typeAssert (.iface 482 v) 431 482 aF).run bH w= .ok (aN #[v,aG aF]) w:=by kernel_rfl
theorem YR(v:aT)(w:aS):(Instr.typeAssert (.iface 486 v) 431 478 aF).run bH w= .ok (aN #[aM #[aG aD,O Y 0,O Y 0,O Y 0,O Y 0,aG aD,O Y 0,aG aD,O Y 0,O Y 0,aG aD,O Y 0,aG aD,O Y 0,aG aD,O Y 0,aG aD,O Y 0,aG aD,O Y 0,aG aD,O Y 0],aG aD]) w:=by kernel_rfl
theorem YE(v:aT)(w:aS):(Instr.typeAssert (.iface 486 v) 431 482 aF).run bH w= .ok (aN #[aM #[aG aD,O Y 0,O Y 0,O Y 0,O Y 0,aG aD,aG aD,O Y 0,aG aD,O Y 0,aG aD,O Y 0,aG aD,O Y 0,aG aD,O Y 0,aG aD,O Y 0,O Y 0,O Y 0],aG aD]) w:=by kernel_rfl
theorem bx(v:aT)(w:aS):(Instr.typeAssert (.iface 486 v) 431 486 aF).run bH w= .ok (aN #[v,aG aF]) w:=by kernel_rfl
theorem cu(v:aT)(w:aS):(Instr.typeAssert (.iface 490 v) 431 478 aF).run bH w= .ok (aN #[aM #[aG aD,O Y 0,O Y 0,O Y 0,O Y 0,aG aD,O Y 0,aG aD,O Y 0,O Y 0,aG aD,O Y 0,aG aD,O Y 0,aG aD,O Y 0,aG aD,O Y 0,aG aD,O Y 0,aG aD,O Y 0],aG aD]) w:=by kernel_rfl
theorem bf(v:aT)(w:aS):(Instr.typeAssert (.iface 490 v) 431 482 aF).run bH w= .ok (aN #[aM #[aG aD,O Y 0,O Y 0,O Y 0,O Y 0,aG aD,aG aD,O Y 0,aG aD,O Y 0,aG aD,O Y 0,aG aD,O Y 0,aG aD,O Y 0,aG aD,O Y 0,O Y 0,O Y 0],aG aD]) w:=by kernel_rfl
theorem cw(v:aT)(w:aS):(Instr.typeAssert (.iface 490 v) 431 486 aF).run bH w= .ok (aN #[aM #[aG aD,O Y 0,aL J 0 0,aG aD,O Y 0,aG aD,O Y 0,aG aD,O Y 0],aG aD]) w:=by kernel_rfl
theorem ZG(v:aT)(w:aS):(Instr.typeAssert (.iface 490 v) 431 490 aF).run bH w= .ok (aN #[v,aG aF]) w:=by kernel_rfl
theorem XX(v:aT)(w:aS):(Instr.typeAssert (.iface 494 v) 431 478 aF).run bH w= .ok (aN #[aM #[aG aD,O Y 0,O Y 0,O Y 0,O Y 0,aG aD,O Y 0,aG aD,O Y 0,O Y 0,aG aD,O Y 0,aG aD,O Y 0,aG aD,O Y 0,aG aD,O Y 0,aG aD,O Y 0,aG aD,O Y 0],aG aD]) w:=by kernel_rfl
theorem al(v:aT)(w:aS):(Instr.typeAssert (.iface 494 v) 431 482 aF).run bH w= .ok (aN #[aM #[aG aD,O Y 0,O Y 0,O Y 0,O Y 0,aG aD,aG aD,O Y 0,aG aD,O Y 0,aG aD,O Y 0,aG aD,O Y 0,aG aD,O Y 0,aG aD,O Y 0,O Y 0,O Y 0],aG aD]) w:=by kernel_rfl
theorem bo(v:aT)(w:aS):(Instr.typeAssert (.iface 494 v) 431 486 aF).run bH w= .ok (aN #[aM #[aG aD,O Y 0,aL J 0 0,aG aD,O Y 0,aG aD,O Y 0,aG aD,O Y 0],aG aD]) w:=by kernel_rfl
theorem ag(v:aT)(w:aS):(Instr.typeAssert (.iface 494 v) 431 490 aF).run bH w= .ok (aN #[aM #[aG aD,O Y 0,aG aD,O Y 0,aG aD,O Y 0,aG aD,O Y 0],aG aD]) w:=by kernel_rfl
theorem YM(v:aT)(w:aS):(Instr.typeAssert (.iface 494 v) 431 494 aF).run bH w= .ok (aN #[v,aG aF]) w:=by kernel_rfl
theorem TA(tk:ByteArray)(L:List aT)(hL:L.length=22)(h1:Ones L)(w:aS):
  aU bH 235 #[aH tk,.iface 478 (.agg L.toArray)] w fun e w'=>
   e=aJ (aN #[aM (iE { nm0 with k:=1,tk:=tk,gga:=L } jH).toArray,aH ⟨#[71,71,65]⟩])∧aV w.heap.size w w':=by
 obtain⟨hres,hm,iJ,hb⟩:=yZ w (aI bI 84) (aI bI 84);have hok1:NmOk { nm0 with tk:=tk } :=⟨nm0_ok.g,nm0_ok.r,nm0_ok.s,nm0_ok.v⟩;go_enter wN,vJ;go_wp2_with(with_reducible refine sG [84] ?_);rw[Eu tk];generalize((w.alloc (aI bI 84)).alloc (aI bI 84))=w1 at*;refine eL (bQ D _ _ _ D (w.heap.size+1) (iE { nm0 with tk:=tk } jH).toArray D D _ _ hm (eO _ hok1) (nL _ hok1) (hok1.one _).all ?_);have oX:NmB _ (w.heap.size+1) { nm0 with tk:=tk } jH:=bW _ _ _ (iE { nm0 with tk:=tk } jH).toArray _ _ hm;have haw:=dZ (w:=w1) (w.heap.size+1) (iE { nm0 with tk:=tk } jH).toArray;have dQ:=haw.keep hres (by omega);have hb2:=cJ hb haw (fun k hk=>by omega);have wD:(w1.setRow (w.heap.size+1) (iE { nm0 with tk:=tk } jH).toArray).heap.size=w.heap.size+2:=by rw[lZ];exact iJ
 clear hm haw hres hb iJ;generalize(w1.setRow (w.heap.size+1) (iE { nm0 with tk:=tk } jH).toArray)=w2 at*;clear w1;have hp:=bS w2 (aI #[aG aD,O Y 0,O Y 0,O Y 0,O Y 0,aG aD,O Y 0,aG aD,O Y 0,O Y 0,aG aD,O Y 0,aG aD,O Y 0,aG aD,O Y 0,aG aD,O Y 0,aG aD,O Y 0,aG aD,O Y 0] 478);have hbx:aV w2.heap.size w2 (w2.alloc (aI #[aG aD,O Y 0,O Y 0,O Y 0,O Y 0,aG aD,O Y 0,aG aD,O Y 0,O Y 0,aG aD,O Y 0,aG aD,O Y 0,aG aD,O Y 0,aG aD,O Y 0,aG aD,O Y 0,aG aD,O Y 0] 478)):=(bP _ _).alloc (bM _) _;have Kk:NmB _ _ _ _:=bV oX hbx (bT oX);have hres3:=bV dQ hbx (bT dQ);have hb3:=eI hb2 hbx;clear hbx oX dQ hb2;have UJ:=fun w=>bc (.agg L.toArray) w;go_wp2_with(with_reducible refine sG [478] ?_);rw[wD] at hp;generalize(w2.alloc (aI #[aG aD,O Y 0,O Y 0,O Y 0,O Y 0,aG aD,O Y 0,aG aD,O Y 0,O Y 0,aG aD,O Y 0,aG aD,O Y 0,aG aD,O Y 0,aG aD,O Y 0,aG aD,O Y 0,aG aD,O Y 0] 478))=w3 at*;refine eL (bQ D _ _ _ D (w.heap.size+2) L.toArray D D _ _ hp (by rw[cG,hL];kernel_rfl) (by have e:L.toArray.size=22:=(by rw[cG,hL]);rw[e];rfl) h1.all ?_);have Cb:=bW _ _ _ L.toArray _ _ hp;have haw:=dZ (w:=w3) (w.heap.size+2) L.toArray;have yO:NmB _ _ _ _:=haw.keep Kk (by omega);have fM:=haw.keep hres3 (by omega);have hb4:=cJ hb3 haw (fun k hk=>by omega);clear Kk hres3 hb3 haw hp UJ wD;generalize(w3.setRow (w.heap.size+2) L.toArray)=w4 at*;clear w2;go_wp2_with fail;refine cQ (fun w'=>w'.heap[w.heap.size+2]?=aE (aI L.toArray 478)) aD [] (by kernel_rfl) (by kernel_rfl) Cb ?_;replace Cb:w4.drew.heap[w.heap.size+2]?=_:=Cb;replace yO:NmB w4.drew _ _ _:=yO;replace fM:w4.drew.heap[w.heap.size]?=_:=fM;replace hb4:=hb4.drew;generalize w4.drew=w5 at*;refine Ord.K ?_;refine eA jG D (by rw[hL];kernel_rfl) D (by intro e;rw[e] at hL;cases hL) (fun w' hS=>tU hS) Cb (by kernel_rfl) ?_;refine PT ?_;refine Ord.K ?_;have c0:=bL (i:=0) (v:=O Y 0) yO D;have f0:=bZ (i:=0) yO;have haw:=gO (w:=w5) (w.heap.size+1) 0 (O Y 1);have Cr:=Ep yO 1;have Pl:=haw.keep Cb (by omega);have iW:=haw.keep fM (by omega);have hb6:=cJ hb4 haw (fun k hk=>by omega);clear yO Cb fM hb4 haw
 refine Ord.X ?_;go_wp2_with fail;refine cC Pl (fun h=>by cases h) ?_;generalize(w5.setCell ⟨w.heap.size+1,0,J⟩ (O Y 1))=w6 at*;clear c0 f0;refine PT ?_;refine Ord.K ?_;have xU:NmOk { nm0 with k:=1,tk:=tk } :=⟨nm0_ok.g,nm0_ok.r,nm0_ok.s,nm0_ok.v⟩;have hok3:NmOk { nm0 with k:=1,tk:=tk,gga:=L } :=⟨⟨hL,h1⟩,nm0_ok.r,nm0_ok.s,nm0_ok.v⟩;refine Ord.X ?_;refine gK D _ _ _ D (w.heap.size+1) 2 L.toArray D D (NmB.there Cr xU (by rw[cG,hL];omega)) (by rw[cG,hL];kernel_rfl) h1.all ?_;have E5:Se { nm0 with k:=1,tk:=tk } jH { nm0 with k:=1,tk:=tk,gga:=L } jH 2 L:=⟨[O Y 1,aH tk],nm0.gga,_,D,D,D,by rw[hL];rfl⟩;obtain⟨Ko,haw⟩:=NmB.set Cr E5;have Ty:=haw.keep Pl (by omega);have gQ:=haw.keep iW (by omega);have hb7:=cJ hb6 haw (fun k hk=>by omega);simp only[iL];generalize w6.setCells (w.heap.size+1) 2 L=w7 at*;clear Cr haw Pl iW hb6 E5;go_wp2_with fail;refine cC Ty (fun h=>by cases h) ?_;refine PT ?_;refine cV ?_;clear Ty;go_wp2_with(with_reducible refine sG [84] ?_);refine eL (dI D _ _ D (w.heap.size+1) D _ _ _ _ Ko dJ D (eO _ hok3) ?_);go_wp2_with(with_reducible refine sG [84] ?_);refine eL (bQ D _ _ _ D w.heap.size (iE { nm0 with k:=1,tk:=tk,gga:=L } jH).toArray D D _ _ gQ (eO _ hok3) (nL _ hok3) (hok3.one _).all ?_);have nC:=bW _ _ _ (iE { nm0 with k:=1,tk:=tk,gga:=L } jH).toArray _ _ gQ;have hb8:=cB hb7 (bM _) (iE { nm0 with k:=1,tk:=tk,gga:=L } jH).toArray;simp only[Act.put];repeat go_step
 exact bR (cD D _ _ w.heap.size _ _ _ _ D nC dJ D (eO _ hok3)) D ⟨D,hb8⟩
theorem TR(tk:ByteArray)(L:List aT)(hL:L.length=20)(h1:Ones L)(w:aS):
  aU bH 235 #[aH tk,.iface 482 (.agg L.toArray)] w fun e w'=>
   e=aJ (aN #[aM (iE { nm0 with k:=2,tk:=tk,rmc:=L } jH).toArray,aH ⟨#[82,77,67]⟩])∧aV w.heap.size w w':=by
 obtain⟨hres,hm,iJ,hb⟩:=yZ w (aI bI 84) (aI bI 84);have hok1:NmOk { nm0 with tk:=tk } :=⟨nm0_ok.g,nm0_ok.r,nm0_ok.s,nm0_ok.v⟩;go_enter wN,vJ;go_wp2_with(with_reducible refine sG [84] ?_);rw[Eu tk];generalize((w.alloc (aI bI 84)).alloc (aI bI 84))=w1 at*;refine eL (bQ D _ _ _ D (w.heap.size+1) (iE { nm0 with tk:=tk } jH).toArray D D _ _ hm (eO _ hok1) (nL _ hok1) (hok1.one _).all ?_);have oX:NmB _ (w.heap.size+1) { nm0 with tk:=tk } jH:=bW _ _ _ (iE { nm0 with tk:=tk } jH).toArray _ _ hm;have haw:=dZ (w:=w1) (w.heap.size+1) (iE { nm0 with tk:=tk } jH).toArray;have dQ:=haw.keep hres (by omega);have hb2:=cJ hb haw (fun k hk=>by omega);have wD:(w1.setRow (w.heap.size+1) (iE { nm0 with tk:=tk } jH).toArray).heap.size=w.heap.size+2:=by rw[lZ];exact iJ
 clear hm haw hres hb iJ;generalize(w1.setRow (w.heap.size+1) (iE { nm0 with tk:=tk } jH).toArray)=w2 at*;clear w1;have hp:=bS w2 (aI #[aG aD,O Y 0,O Y 0,O Y 0,O Y 0,aG aD,aG aD,O Y 0,aG aD,O Y 0,aG aD,O Y 0,aG aD,O Y 0,aG aD,O Y 0,aG aD,O Y 0,O Y 0,O Y 0] 482);have hbx:aV w2.heap.size w2 (w2.alloc (aI #[aG aD,O Y 0,O Y 0,O Y 0,O Y 0,aG aD,aG aD,O Y 0,aG aD,O Y 0,aG aD,O Y 0,aG aD,O Y 0,aG aD,O Y 0,aG aD,O Y 0,O Y 0,O Y 0] 482)):=(bP _ _).alloc (bM _) _;have Kk:NmB _ _ _ _:=bV oX hbx (bT oX);have hres3:=bV dQ hbx (bT dQ);have hb3:=eI hb2 hbx;clear hbx oX dQ hb2;have UJ:=fun w=>YL (.agg L.toArray) w;have ep:=fun w=>ZD (.agg L.toArray) w;go_wp2_with(with_reducible refine sG [482] ?_);rw[wD] at hp;generalize(w2.alloc (aI #[aG aD,O Y 0,O Y 0,O Y 0,O Y 0,aG aD,aG aD,O Y 0,aG aD,O Y 0,aG aD,O Y 0,aG aD,O Y 0,aG aD,O Y 0,aG aD,O Y 0,O Y 0,O Y 0] 482))=w3 at*;refine eL (bQ D _ _ _ D (w.heap.size+2) L.toArray D D _ _ hp (by rw[cG,hL];kernel_rfl) (by have e:L.toArray.size=20:=(by rw[cG,hL]);rw[e];rfl) h1.all ?_);have Cb:=bW _ _ _ L.toArray _ _ hp;have haw:=dZ (w:=w3) (w.heap.size+2) L.toArray;have yO:NmB _ _ _ _:=haw.keep Kk (by omega);have fM:=haw.keep hres3 (by omega);have hb4:=cJ hb3 haw (fun k hk=>by omega);clear Kk hres3 hb3 haw hp UJ ep wD;generalize(w3.setRow (w.heap.size+2) L.toArray)=w4 at*;clear w2;go_wp2_with fail;refine cQ (fun w'=>w'.heap[w.heap.size+2]?=aE (aI L.toArray 482)) aD [] (by kernel_rfl) (by kernel_rfl) Cb ?_;replace Cb:w4.drew.heap[w.heap.size+2]?=_:=Cb;replace yO:NmB w4.drew _ _ _:=yO;replace fM:w4.drew.heap[w.heap.size]?=_:=fM;replace hb4:=hb4.drew;generalize w4.drew=w5 at*;refine Ord.K ?_;refine eA jE D (by rw[hL];kernel_rfl) D (by intro e;rw[e] at hL;cases hL) (fun w' hS=>tU hS) Cb (by kernel_rfl) ?_;refine PT ?_;refine Ord.K ?_;have c0:=bL (i:=0) (v:=O Y 0) yO D;have f0:=bZ (i:=0) yO;have haw:=gO (w:=w5) (w.heap.size+1) 0 (O Y 2);have Cr:=Ep yO 2;have Pl:=haw.keep Cb (by omega);have iW:=haw.keep fM (by omega);have hb6:=cJ hb4 haw (fun k hk=>by omega)
 clear yO Cb fM hb4 haw;refine Ord.X ?_;go_wp2_with fail;refine cC Pl (fun h=>by cases h) ?_;generalize(w5.setCell ⟨w.heap.size+1,0,J⟩ (O Y 2))=w6 at*;clear c0 f0;refine PT ?_;refine Ord.K ?_;have xU:NmOk { nm0 with k:=2,tk:=tk } :=⟨nm0_ok.g,nm0_ok.r,nm0_ok.s,nm0_ok.v⟩;have hok3:NmOk { nm0 with k:=2,tk:=tk,rmc:=L } :=⟨nm0_ok.g,⟨hL,h1⟩,nm0_ok.s,nm0_ok.v⟩;refine Ord.X ?_;refine gK D _ _ _ D (w.heap.size+1) 24 L.toArray D D (NmB.there Cr xU (by rw[cG,hL];omega)) (by rw[cG,hL];kernel_rfl) h1.all ?_;have E5:Se { nm0 with k:=2,tk:=tk } jH { nm0 with k:=2,tk:=tk,rmc:=L } jH 24 L:=⟨[O Y 2,aH tk]++nm0.gga,nm0.rmc,C8 nm0.gsa J 0 0++(nm0.vtg++Gl nm0.gsv J 0 0),by simp[iE,jH],by simp[iE,jH],D,by rw[hL];rfl⟩;obtain⟨Ko,haw⟩:=NmB.set Cr E5;have Ty:=haw.keep Pl (by omega);have gQ:=haw.keep iW (by omega);have hb7:=cJ hb6 haw (fun k hk=>by omega);simp only[iL];generalize w6.setCells (w.heap.size+1) 24 L=w7 at*;clear Cr haw Pl iW hb6 E5;go_wp2_with fail;refine cC Ty (fun h=>by cases h) ?_;refine PT ?_;refine cV ?_;clear Ty;go_wp2_with(with_reducible refine sG [84] ?_);refine eL (dI D _ _ D (w.heap.size+1) D _ _ _ _ Ko dJ D (eO _ hok3) ?_);go_wp2_with(with_reducible refine sG [84] ?_);refine eL (bQ D _ _ _ D w.heap.size (iE { nm0 with k:=2,tk:=tk,rmc:=L } jH).toArray D D _ _ gQ (eO _ hok3) (nL _ hok3) (hok3.one _).all ?_);have nC:=bW _ _ _ (iE { nm0 with k:=2,tk:=tk,rmc:=L } jH).toArray _ _ gQ;have hb8:=cB hb7 (bM _) (iE { nm0 with k:=2,tk:=tk,rmc:=L } jH).toArray;simp only[Act.put];repeat go_step
 exact bR (cD D _ _ w.heap.size _ _ _ _ D nC dJ D (eO _ hok3)) D ⟨D,hb8⟩
theorem SG(tk:ByteArray)(L:List aT)(hL:L.length=8)(h1:Ones L)(w:aS):
  aU bH 235 #[aH tk,.iface 490 (.agg L.toArray)] w fun e w'=>
   e=aJ (aN #[aM (iE { nm0 with k:=4,tk:=tk,vtg:=L } jH).toArray,aH ⟨#[86,84,71]⟩])∧aV w.heap.size w w':=by
 obtain⟨hres,hm,iJ,hb⟩:=yZ w (aI bI 84) (aI bI 84);have hok1:NmOk { nm0 with tk:=tk } :=⟨nm0_ok.g,nm0_ok.r,nm0_ok.s,nm0_ok.v⟩;go_enter wN,vJ;go_wp2_with(with_reducible refine sG [84] ?_);rw[Eu tk];generalize((w.alloc (aI bI 84)).alloc (aI bI 84))=w1 at*;refine eL (bQ D _ _ _ D (w.heap.size+1) (iE { nm0 with tk:=tk } jH).toArray D D _ _ hm (eO _ hok1) (nL _ hok1) (hok1.one _).all ?_);have oX:NmB _ (w.heap.size+1) { nm0 with tk:=tk } jH:=bW _ _ _ (iE { nm0 with tk:=tk } jH).toArray _ _ hm;have haw:=dZ (w:=w1) (w.heap.size+1) (iE { nm0 with tk:=tk } jH).toArray;have dQ:=haw.keep hres (by omega);have hb2:=cJ hb haw (fun k hk=>by omega);have wD:(w1.setRow (w.heap.size+1) (iE { nm0 with tk:=tk } jH).toArray).heap.size=w.heap.size+2:=by rw[lZ];exact iJ
 clear hm haw hres hb iJ;generalize(w1.setRow (w.heap.size+1) (iE { nm0 with tk:=tk } jH).toArray)=w2 at*;clear w1;have hp:=bS w2 (aI #[aG aD,O Y 0,aG aD,O Y 0,aG aD,O Y 0,aG aD,O Y 0] 490);have hbx:aV w2.heap.size w2 (w2.alloc (aI #[aG aD,O Y 0,aG aD,O Y 0,aG aD,O Y 0,aG aD,O Y 0] 490)):=(bP _ _).alloc (bM _) _;have Kk:NmB _ _ _ _:=bV oX hbx (bT oX);have hres3:=bV dQ hbx (bT dQ);have hb3:=eI hb2 hbx;clear hbx oX dQ hb2;have UJ:=fun w=>cu (.agg L.toArray) w;have ep:=fun w=>bf (.agg L.toArray) w;have sl:=fun w=>cw (.agg L.toArray) w;have as4:=fun w=>ZG (.agg L.toArray) w;go_wp2_with(with_reducible refine sG [490] ?_);rw[wD] at hp;generalize(w2.alloc (aI #[aG aD,O Y 0,aG aD,O Y 0,aG aD,O Y 0,aG aD,O Y 0] 490))=w3 at*;refine eL (bQ D _ _ _ D (w.heap.size+2) L.toArray D D _ _ hp (by rw[cG,hL];kernel_rfl) (by have e:L.toArray.size=8:=(by rw[cG,hL]);rw[e];rfl) h1.all ?_);have Cb:=bW _ _ _ L.toArray _ _ hp;have haw:=dZ (w:=w3) (w.heap.size+2) L.toArray;have yO:NmB _ _ _ _:=haw.keep Kk (by omega);have fM:=haw.keep hres3 (by omega);have hb4:=cJ hb3 haw (fun k hk=>by omega);clear Kk hres3 hb3 haw hp UJ ep sl as4 wD;generalize(w3.setRow (w.heap.size+2) L.toArray)=w4 at*;clear w2;go_wp2_with fail;refine cQ (fun w'=>w'.heap[w.heap.size+2]?=aE (aI L.toArray 490)) aD [] (by kernel_rfl) (by kernel_rfl) Cb ?_;replace Cb:w4.drew.heap[w.heap.size+2]?=_:=Cb;replace yO:NmB w4.drew _ _ _:=yO;replace fM:w4.drew.heap[w.heap.size]?=_:=fM;replace hb4:=hb4.drew;generalize w4.drew=w5 at*;refine Ord.K ?_;refine eA jD D (by rw[hL];kernel_rfl) D (by intro e;rw[e] at hL;cases hL) (fun w' hS=>tU hS) Cb (by kernel_rfl) ?_;refine PT ?_;refine Ord.K ?_;have c0:=bL (i:=0) (v:=O Y 0) yO D;have f0:=bZ (i:=0) yO;have haw:=gO (w:=w5) (w.heap.size+1) 0 (O Y 4);have Cr:=Ep yO 4;have Pl:=haw.keep Cb (by omega);have iW:=haw.keep fM (by omega);have hb6:=cJ hb4 haw (fun k hk=>by omega);clear yO Cb fM hb4 haw;refine Ord.X ?_;go_wp2_with fail;refine cC Pl (fun h=>by cases h) ?_;generalize(w5.setCell ⟨w.heap.size+1,0,J⟩ (O Y 4))=w6 at*
 clear c0 f0;refine PT ?_;refine Ord.K ?_;have xU:NmOk { nm0 with k:=4,tk:=tk } :=⟨nm0_ok.g,nm0_ok.r,nm0_ok.s,nm0_ok.v⟩;have hok3:NmOk { nm0 with k:=4,tk:=tk,vtg:=L } :=⟨nm0_ok.g,nm0_ok.r,nm0_ok.s,⟨hL,h1⟩⟩;refine Ord.X ?_;refine gK D _ _ _ D (w.heap.size+1) 53 L.toArray D D (NmB.there Cr xU (by rw[cG,hL];omega)) (by rw[cG,hL];kernel_rfl) h1.all ?_;have E5:Se { nm0 with k:=4,tk:=tk } jH { nm0 with k:=4,tk:=tk,vtg:=L } jH 53 L:=⟨[O Y 4,aH tk]++(nm0.gga++(nm0.rmc++C8 nm0.gsa J 0 0)),nm0.vtg,Gl nm0.gsv J 0 0,by simp[iE,jH],by simp[iE,jH],D,by rw[hL];rfl⟩;obtain⟨Ko,haw⟩:=NmB.set Cr E5;have Ty:=haw.keep Pl (by omega);have gQ:=haw.keep iW (by omega);have hb7:=cJ hb6 haw (fun k hk=>by omega);simp only[iL];generalize w6.setCells (w.heap.size+1) 53 L=w7 at*;clear Cr haw Pl iW hb6 E5;go_wp2_with fail;refine cC Ty (fun h=>by cases h) ?_;refine PT ?_;refine cV ?_;clear Ty;go_wp2_with(with_reducible refine sG [84] ?_);refine eL (dI D _ _ D (w.heap.size+1) D _ _ _ _ Ko dJ D (eO _ hok3) ?_);go_wp2_with(with_reducible refine sG [84] ?_);refine eL (bQ D _ _ _ D w.heap.size (iE { nm0 with k:=4,tk:=tk,vtg:=L } jH).toArray D D _ _ gQ (eO _ hok3) (nL _ hok3) (hok3.one _).all ?_);have nC:=bW _ _ _ (iE { nm0 with k:=4,tk:=tk,vtg:=L } jH).toArray _ _ gQ;have hb8:=cB hb7 (bM _) (iE { nm0 with k:=4,tk:=tk,vtg:=L } jH).toArray;simp only[Act.put];repeat go_step
 exact bR (cD D _ _ w.heap.size _ _ _ _ D nC dJ D (eO _ hok3)) D ⟨D,hb8⟩
end
end Go.Proofs.YtfoabhdppkjmbaaGreat
