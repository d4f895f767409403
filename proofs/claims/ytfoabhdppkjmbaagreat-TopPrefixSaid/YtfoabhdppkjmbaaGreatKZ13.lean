import Derived.Test.YtfoabhdppkjmbaaGreatKZ5
import Derived.Test.YtfoabhdppkjmbaaGreatKZ12
import Derived.Laws.Bits128
set_option linter.unusedSimpArgs false
set_option linter.unusedVariables false
set_option maxHeartbeats 8000000
set_option maxRecDepth 10000
namespace Go.Proofs.YtfoabhdppkjmbaaGreat
open Bool renaming false→aD,true→aF
open Go renaming Addr→aW,Calls→aU,Ending→aX,Oper→bA,Program→aZ,TypeId→aY,Value→aT,World→aS,maxLen→bB
open Go.Ending renaming returned→aJ
open Go.IntKind renaming i64→Y
open Go.Obj renaming cells→aI
open Go.Proofs.Tryz renaming prog→bH
open Go.RowKit renaming Below→aV,intOf→bE
open Go.Value renaming agg→aM,bool→aG,int→O,slice→aL,tuple→aN
open Option renaming none→J,some→aE
open Go.Proofs.Tryz
namespace NumLaw
end NumLaw
section
open Go.RowKit NumLaw
def f4(f:eK):List aT:= [O Y f.size,aG f.sg,O Y f.lo,O Y f.hi]
def Ft(l:List eK):List aT:=l.flatMap f4
theorem Yn(a b:List eK):Ft (a++b)=Ft a++Ft b:=by simp[Ft]
theorem Xt(l:List eK): ∀u∈Ft l,u.oneCell'=aF:=by
 intro u hu;obtain⟨f,_,h⟩:=List.mem_flatMap.1 hu;simp[f4] at h;rcases h with rfl|rfl|rfl|rfl<;>rfl
theorem JG: ∀(l:List eK) (k j:Nat) (f:eK),l[k]?=aE f→j<4→(Ft l)[k*4+j]?=(f4 f)[j]?
 | [],_,_,_,h,_=>by simp at h
 |g::l,0,j,f,h,hj=>by
  simp at h;subst h;have:j<(f4 g).length:=by simpa [f4] using hj
  simp only[Ft,List.flatMap_cons,Nat.zero_mul,fZ];rw[List.getElem?_append_left this]
 |g::l,k+1,j,f,h,hj=>by have:=JG l k j f (by simpa using h) hj;have e:(f4 g).length=4:=D;rw[←this];show(f4 g++Ft l)[(k+1)*4+j]?=_;rw[List.getElem?_append_right (by omega),e,show(k+1)*4+j-4=k*4+j by omega]
theorem Dy(l:List eK):(Ft l).length=l.length*4:=by
 induction l with
 |nil=>rfl
 |cons f l ih=>show(f4 f++Ft l).length=_;rw[cZ,ih];simp[f4];omega
def FB(l:List eK):Prop:= ∀f∈l,(-9223372036854775808≤f.size∧f.size≤9223372036854775807)∧(-9223372036854775808≤f.lo∧f.lo≤9223372036854775807)∧(-9223372036854775808≤f.hi∧f.hi≤9223372036854775807)
theorem M2{w:aS}{g off B n c:Nat}{l:List eK}(hn:l.length=n)(hc:n≤c)(hm:c≤bB)(hg:g<B)(h: ∀j u,(Ft l)[j]?=aE u→w.cell? ⟨g,off+j,J⟩=aE u)(hb:FB l):RdF w B (aE ⟨g,off,J⟩) n c l:=
 ⟨hn,hc,hm,fun _=>⟨g,off,D,hg,fun k f hk=>by
  have e:=fun j (hj:j<4)=>h (k*4+j) ((f4 f)[j]'(by simpa [f4] using hj)) (by rw[JG l k j f hk hj,cF]);refine⟨?_,?_,?_,?_,hb f (dD hk)⟩
  ·exact e 0 (by omega)
  ·have:=e 1 (by omega);rwa[show off+(k*4+1)=off+k*4+1 by omega] at this
  ·have:=e 2 (by omega);rwa[show off+(k*4+2)=off+k*4+2 by omega] at this
  ·have:=e 3 (by omega);rwa[show off+(k*4+3)=off+k*4+3 by omega] at this⟩⟩
theorem X7{w:aS}{base:Nat}{e:aY}{n c:Nat}{A:Option aW}{l:List eK}(h:w.ownsRow base e 4 (aL A n c) n (Ft l))(hb:FB l):RdF w w.heap.size A n c l:=by
 have hl:l.length=n:=by have:=h.1;rw[Dy] at this;omega
 rcases h.2 with⟨hv,h0⟩|⟨g,cap,cur,hv,hg,hh,h1,h2,h3,h4⟩
 ·injection hv with e1 e2 e3;subst e1;subst e2;subst e3;exact⟨hl,bM _,fT _,fun h=>absurd h (pX _)⟩
 ·have jI:=h.cells (g:=g) (by rw[hv];rfl);injection hv with e1 e2 e3;subst e1;subst e3;refine M2 hl h1 h2 (bT hh) (fun j u hu=> ?_) hb;have:=jI j u hu
  rwa[show(⟨g,0,J⟩:aW).add j=⟨g,0+j,J⟩ by unfold Addr.add;split<;>simp_all] at this
theorem Nd(w:aS)(e:aY)(l:List eK)(cs:Array aT)(Co:cs=(Ft l).toArray)(hm:l.length≤bB)(hb:FB l):RdF (w.alloc (aI cs e)) (w.heap.size+1) (aE ⟨w.heap.size,0,J⟩) l.length l.length l:=by
 subst Co;refine M2 D (bM _) hm (iO _) (fun j u hu=> ?_) hb;rw[World.cell?,show(⟨w.heap.size,0+j,J⟩:aW).block=w.heap.size from D,bS w _];simpa using hu
theorem Yx(w:aS)(e:aY)(l:List eK)(cs:Array aT)(Co:cs=(Ft l).toArray)(hm:l.length≤bB):Rd (w.alloc (aI cs e)) (w.heap.size+1) 4 (aE ⟨w.heap.size,0,J⟩) l.length l.length (Ft l):=by
 subst Co;refine⟨Dy l,bM _,hm,fun _=>⟨_,D,iO _,fun j u hu=> ?_⟩⟩;have e1:(⟨w.heap.size,0,J⟩:aW).add j=⟨w.heap.size,j,J⟩:=by unfold Addr.add;split<;>simp_all
 rw[e1,World.cell?,show(⟨w.heap.size,j,J⟩:aW).block=w.heap.size from D,bS w _];simpa using hu
theorem KA(w:aS)(base:Nat)(e:aY)(l:List eK)(cs:Array aT)(Co:cs=(Ft l).toArray)(hB:base≤w.heap.size)(hm:l.length≤bB):(w.alloc (aI cs e)).ownsRow base e 4 (aL (aE ⟨w.heap.size,0,J⟩) l.length l.length) l.length (Ft l):=by
 subst Co;exact⟨Dy l,.inr ⟨w.heap.size,l.length,_,D,hB,bS w _,bM _,hm,by simp[Dy],by show List.take _ (Ft l)=_;exact List.take_of_length_le (by rw[Dy];exact bM _)⟩⟩
theorem Je:(Tryz.prog.info? 408).map (fun i=>(i.zero,i.size,i.bytes))=aE (aE (aM #[O Y 0,aG aD,O Y 0,O Y 0]),4,32):=by kernel_rfl
def Qb(l:List eK)(w:aS)(e:aX)(w':aS):Prop:=
 ∃A n c,e=aJ (aL A n c)∧n≤1000∧RdF w' w'.heap.size A n c l∧aV w.heap.size w w'
def tS:List eK:= [⟨4,aD,0,604799999⟩,⟨1,aD,1,1⟩,⟨1,aD,0,64⟩,⟨2,aD,0,0⟩]
def Bk:List eK:= [⟨1,aD,0,7⟩,⟨1,aD,0,255⟩,⟨1,aD,0,63⟩,⟨1,aF,-90,90⟩,⟨2,aF,0,360⟩,⟨2,aF,-32768,32767⟩,⟨4,aD,0,4294967295⟩]
theorem QH:FB tS:=by intro f hf;simp[tS] at hf;rcases hf with rfl|rfl|rfl|rfl<;>simp
theorem bg:FB Bk:=by intro f hf;simp[Bk] at hf;rcases hf with rfl|rfl|rfl|rfl|rfl|rfl|rfl<;>simp
def qY:Nat→List UInt8→Nat × List (List Int)
 |0,_=>(0,[])
 |n+1,r=>if jM Bk (r.take 12)=0 then((qY n (r.drop 12)).1,uT Bk (r.take 12)::(qY n (r.drop 12)).2) else(jM Bk (r.take 12),[])
def It(b:List UInt8):Nat:=((uT tS (b.take 8)).getD 2 0).toNat
def nN(b:List UInt8):Nat:=
 if b.length<8 then 2 else if jM tS (b.take 8)=0 then
  if b.length-8<12*It b then 2 else if 12*It b<b.length-8 then 7 else(qY (It b) (b.drop 8)).1
 else jM tS (b.take 8)
def xB(b:List UInt8):Int:=if nN b=0 then(uT tS (b.take 8)).getD 0 0 else 0
def yS(b:List UInt8):List (List Int):=if nN b=0 then(qY (It b) (b.drop 8)).2 else []
theorem lz{b:List UInt8}(h:jM tS b=0): ∃t n:Int,uT tS b= [t,1,n,0]∧0≤n∧n≤64∧0≤t∧t≤604799999:=by
 obtain⟨h1,h2,h3⟩:=sU h;have hl:(uT tS b).length=4:=h3;generalize uT tS b=v at*
 match v,hl with
 | [a0,a1,a2,a3],_=>
  have Bs:tI tS [a0,a1,a2,a3]=aF:=by
   unfold My at h1;split at h1
   ·split at h1
    ·assumption
    ·cases h1
   ·cases h1
  simp[tI,tS,Sz] at Bs;obtain⟨⟨p1,p2⟩,⟨p3,p4⟩,⟨p5,p6⟩,p7,p8⟩:=Bs;obtain rfl:a1=1:=by omega
  obtain rfl:a3=0:=by omega
  exact⟨a0,a2,D,p5,p6,p1,p2⟩
theorem Up{b:List UInt8}(h:nN b≠0):xB b=0∧yS b= []:=⟨by unfold xB;rw[bX h],by unfold yS;rw[bX h]⟩
def vU:List eK:=⟨4,aD,0,604799999⟩::List.replicate 7 ⟨2,aD,0,65535⟩
theorem ZY:FB vU:=by intro f hf;simp[vU] at hf;rcases hf with rfl|rfl<;>simp
def Qv(k:Nat):List eK:=⟨4,aD,0,604799999⟩::List.replicate k ⟨2,aD,0,65535⟩
theorem Z5(k:Nat):Qv (k+1)=Qv k++ [⟨2,aD,0,65535⟩]:=by
 simp[Qv,List.replicate_succ']
theorem ou:nR 2 aD=⟨2,aD,0,65535⟩:=by simp[nR,nM]
theorem K5(w:aS):aU bH 453 #[] w (Qb vU w):=by
 obtain⟨i0,hi⟩:=eW Je;have Hi:=bK hi;clear hi;have hu:=fun w=>mN 4 604799999 w;have ha:=fun w=>oS 2 aD w;rw[ou] at ha;rw[bY (by decide)] at hu;have Ha:=bK ha;clear ha;go_enter func453,ntmps453;go_wp2_with fail;go_fit(hu _);rintro e w1 ⟨rfl,hb1⟩;unfold fv;clear hu;go_wp2_with fail;have hown:=KA w1 w.heap.size 408 (Qv 0) #[O Y 4,aG aD,O Y 0,O Y 604799999] D hb1.size (by simp[Qv,bB]);have hb2:=hb1.alloc hb1.size (aI #[O Y 4,aG aD,O Y 0,O Y 604799999] 408);rw[show(Qv 0).length=1 from D] at hown;generalize(w1.alloc (aI #[O Y 4,aG aD,O Y 0,O Y 604799999] 408))=w2 at*;generalize w1.heap.size=g1 at*;go_loopw [1,4] (fun s i wr=> ∃(k:Nat) (A:Option aW) (c:Nat),k≤7∧i=O Y k∧s=aL A (k+1) c∧wr.ownsRow w.heap.size 408 4 (aL A (k+1) c) (k+1) (Ft (Qv k))∧aV w.heap.size w wr) (fun _ i _=>7-(bE i).toNat);case atStart=>exact⟨0,_,1,by omega,D,D,hown,hb2⟩
 case round=>
  clear hown hb2 hb1 w1;obtain⟨k,A,c,hk,rfl,rfl,hown,hb⟩:=hrel;by_cases fF:k<7
  ·go_wp2_with fail;go_fit(Ha.out _);rintro e w3 ⟨rfl,hb3⟩;unfold fv;have hbn:=eI hb hb3;have Ll:=(Yx w3 408 [⟨2,aD,0,65535⟩] #[O Y 2,aG aD,O Y 0,O Y 65535] D (by simp[bB]));have Y2:=jK hown (hb3.alloc hb3.size (aI #[O Y 2,aG aD,O Y 0,O Y 65535] 408)) (bM _);have hbl:=hbn.alloc hbn.size (aI #[O Y 2,aG aD,O Y 0,O Y 65535] 408);have Hd:=bK (Z5 k);go_wp2_with(at_builtin;refine rP ?_);refine eL (vA (base:=w.heap.size) underlying326 Hi.out D (by omega) Y2 D Ll D (Xt _) (k:=k+1+1) (ys:=Ft (Qv (k+1))) D (by rw[Hd.out,Yn]) (by unfold bB;omega) (by omega) hbl.size ?_);intro A3 c3 w4 Tb hup3;have hb4:=hup3 hbl hbl.size (bM _);clear hup3 hown Y2 Ll Hd hbl hbn hb hb3;go_wp2;go_roundw;case rel=>exact⟨k+1,A3,c3,by omega,by go_num,D,Tb,hb4⟩
   case measure=>simp[bE];omega
  ·obtain rfl:k=7:=by omega
   have hrd:=X7 (l:=vU) hown ZY;go_wp2;go_ret;exact⟨_,_,_,D,by omega,hrd,hb⟩
abbrev pM:=@underlying239
theorem F1(w w0:aS)(hb0:aV w0.heap.size w0 w)(e:aY)(l:List eK)(cs:Array aT)(Co:cs=(Ft l).toArray)(hm:l.length≤1000)(hb:FB l)(n:Nat)(hn:l.length=n):Qb l w0 (aJ (aL (aE ⟨w.heap.size,0,J⟩) n n)) (w.alloc (aI cs e)):=by
 subst hn;refine⟨_,_,_,D,hm,?_,hb0.alloc hb0.size _⟩;rw[cL];exact Nd w e l cs Co (by unfold bB;omega) hb
theorem nj:nR 1 aD=⟨1,aD,0,255⟩:=by simp[nR,nM]
theorem mz:nR 2 aF=⟨2,aF,-32768,32767⟩:=by simp[nR,nM]
theorem kn:nR 4 aD=⟨4,aD,0,4294967295⟩:=by simp[nR,nM]
theorem Ny(w:aS):aU bH 442 #[] w (Qb tS w):=by
 have hb0:aV w.heap.size w w:=bP _ _;have a1:=fun w=>mN 4 604799999 w;rw[bY (by decide)] at a1;unfold fv at a1;have a2:=fun w=>mN 1 64 w;rw[bY (by decide)] at a2;unfold fv at a2;have a3:=fun w=>mN 2 0 w;rw[bY (by decide)] at a3;unfold fv at a3;go_enter func442,ntmps442;go_wp2_with fail;go_fit(a1 _);rintro e w1 ⟨rfl,Aq⟩;have hb1:=eI hb0 Aq;clear Aq;go_wp2_with fail;go_fit(a2 _);rintro e w2 ⟨rfl,Tx⟩;have hb2:=eI hb1 Tx;clear Tx;go_wp2_with fail;go_fit(a3 _);rintro e w3 ⟨rfl,DX⟩;have hb3:=eI hb2 DX;clear DX;go_wp2;go_ret;exact F1 w3 w hb3 _ tS _ D (by simp[tS]) QH 4 D
theorem Lc(w:aS):aU bH 443 #[] w (Qb Bk w):=by
 have hb0:aV w.heap.size w w:=bP _ _;have a1:=fun w=>mN 1 7 w;rw[bY (by decide)] at a1;unfold fv at a1;have a2:=fun w=>oS 1 aD w;rw[nj] at a2;unfold fv at a2;have a3:=fun w=>mN 1 63 w;rw[bY (by decide)] at a3;unfold fv at a3;have a4:=fun w=>r9 1 (-90) 90 w;rw[bY (by decide)] at a4;unfold fv at a4;have a5:=fun w=>r9 2 0 360 w;rw[bY (by decide)] at a5;unfold fv at a5;have a6:=fun w=>oS 2 aF w;rw[mz] at a6;unfold fv at a6;have a7:=fun w=>oS 4 aD w;rw[kn] at a7;unfold fv at a7;go_enter func443,ntmps443;go_wp2_with fail;go_fit(a1 _);rintro e w1 ⟨rfl,Aq⟩;have hb1:=eI hb0 Aq;clear Aq;go_wp2_with fail;go_fit(a2 _);rintro e w2 ⟨rfl,Tx⟩;have hb2:=eI hb1 Tx;clear Tx;go_wp2_with fail;go_fit(a3 _);rintro e w3 ⟨rfl,DX⟩;have hb3:=eI hb2 DX;clear DX;go_wp2_with fail;go_fit(a4 _);rintro e w4 ⟨rfl,tw⟩;have hb4:=eI hb3 tw;clear tw;go_wp2_with fail;go_fit(a5 _);rintro e w5 ⟨rfl,fi⟩;have hb5:=eI hb4 fi;clear fi;go_wp2_with fail;go_fit(a6 _);rintro e w6 ⟨rfl,XK⟩;have hb6:=eI hb5 XK;clear XK;go_wp2_with fail;go_fit(a7 _);rintro e w7 ⟨rfl,jx⟩;have hb7:=eI hb6 jx;clear jx;go_wp2;go_ret;exact F1 w7 w hb7 _ Bk _ D (by simp[Bk]) bg 7 D
def I9(s:List Int):List aT:=s.map (Value.int Y)
theorem bk: ∀(xs:List Int),xs.length=7→∃x0 x1 x2 x3 x4 x5 x6:Int,xs= [x0,x1,x2,x3,x4,x5,x6]
 |x0::x1::x2::x3::x4::x5::x6:: [],_=>⟨_,_,_,_,_,_,_,D⟩
theorem Us(A:Option aW)(c B:Nat)(s:List Int)(hs:s.length=7)(w:aS)(h:Rd w B 1 A 7 c (s.map (Value.int Y)))(hB:B≤w.heap.size):aU bH 444 #[aL A 7 c] w fun e w'=>e=aJ (aM (I9 s).toArray)∧aV w.heap.size w w':=by
 obtain⟨x0,x1,x2,x3,x4,x5,x6,rfl⟩:=bk s hs;have hle:=h.le;have hmx:=h.max;unfold bB at hmx;have hb1:aV w.heap.size w (w.alloc (aI #[O Y 0,O Y 0,O Y 0,O Y 0,O Y 0,O Y 0,O Y 0] 239)):=(bP _ _).alloc (bM _) _;have hres:=bS w (aI #[O Y 0,O Y 0,O Y 0,O Y 0,O Y 0,O Y 0,O Y 0] 239);have hr1:=h.up (hb1.mono hB);obtain⟨ad,rfl,aJx,jI⟩:=hr1.at_ (by omega);have c0:(w.alloc (aI #[O Y 0,O Y 0,O Y 0,O Y 0,O Y 0,O Y 0,O Y 0] 239)).cell? ad=aE (O Y x0):=jI 0 _ D;have c1:(w.alloc (aI #[O Y 0,O Y 0,O Y 0,O Y 0,O Y 0,O Y 0,O Y 0] 239)).cell? ⟨ad.block,ad.off+1,J⟩=aE (O Y x1):=jI 1 _ D;have c2:(w.alloc (aI #[O Y 0,O Y 0,O Y 0,O Y 0,O Y 0,O Y 0,O Y 0] 239)).cell? ⟨ad.block,ad.off+2,J⟩=aE (O Y x2):=jI 2 _ D;have c3:(w.alloc (aI #[O Y 0,O Y 0,O Y 0,O Y 0,O Y 0,O Y 0,O Y 0] 239)).cell? ⟨ad.block,ad.off+3,J⟩=aE (O Y x3):=jI 3 _ D;have c4:(w.alloc (aI #[O Y 0,O Y 0,O Y 0,O Y 0,O Y 0,O Y 0,O Y 0] 239)).cell? ⟨ad.block,ad.off+4,J⟩=aE (O Y x4):=jI 4 _ D;have c5:(w.alloc (aI #[O Y 0,O Y 0,O Y 0,O Y 0,O Y 0,O Y 0,O Y 0] 239)).cell? ⟨ad.block,ad.off+5,J⟩=aE (O Y x5):=jI 5 _ D;have c6:(w.alloc (aI #[O Y 0,O Y 0,O Y 0,O Y 0,O Y 0,O Y 0,O Y 0] 239)).cell? ⟨ad.block,ad.off+6,J⟩=aE (O Y x6):=jI 6 _ D;clear jI hr1 h;go_enter func444,ntmps444;go_wp2_with fail;generalize(w.alloc (aI #[O Y 0,O Y 0,O Y 0,O Y 0,O Y 0,O Y 0,O Y 0] 239))=w1 at*;refine cQ (fun w'=>aV w.heap.size w1 w') aD [] (by kernel_rfl) (by kernel_rfl) ((bP _ _).drew) ?_;have h2:aV w.heap.size w1 w1.drew:=(bP _ _).drew;replace hb1:=hb1.drew;replace hres:w1.drew.heap[w.heap.size]?=_:=hres;have Xh:ad.block<w.heap.size:=by omega
 generalize w1.drew=w2 at*;refine Ord.K ?_;refine Ord.K ?_;refine cR cO D (fun w' hS=>((show aV _ w1 w' from hS).cell (p:=ad) Xh).trans c0) h2 D (by kernel_rfl) ?_;refine PT ?_;refine Ord.K ?_;refine Ord.K ?_;refine cR cO D (fun w' hS=>((show aV _ w1 w' from hS).cell (p:=⟨ad.block,ad.off+1,J⟩) Xh).trans c1) h2 D (by kernel_rfl) ?_;refine PT ?_;refine Ord.K ?_;refine Ord.K ?_;refine cR cO D (fun w' hS=>((show aV _ w1 w' from hS).cell (p:=⟨ad.block,ad.off+2,J⟩) Xh).trans c2) h2 D (by kernel_rfl) ?_;refine PT ?_;refine Ord.K ?_;refine Ord.K ?_;refine cR cO D (fun w' hS=>((show aV _ w1 w' from hS).cell (p:=⟨ad.block,ad.off+3,J⟩) Xh).trans c3) h2 D (by kernel_rfl) ?_;refine PT ?_;refine Ord.K ?_;refine Ord.K ?_;refine cR cO D (fun w' hS=>((show aV _ w1 w' from hS).cell (p:=⟨ad.block,ad.off+4,J⟩) Xh).trans c4) h2 D (by kernel_rfl) ?_;refine PT ?_;refine Ord.K ?_;refine Ord.K ?_;refine cR cO D (fun w' hS=>((show aV _ w1 w' from hS).cell (p:=⟨ad.block,ad.off+5,J⟩) Xh).trans c5) h2 D (by kernel_rfl) ?_;refine PT ?_;refine Ord.K ?_;refine Ord.K ?_;refine cR cO D (fun w' hS=>((show aV _ w1 w' from hS).cell (p:=⟨ad.block,ad.off+6,J⟩) Xh).trans c6) h2 D (by kernel_rfl) ?_;refine PT ?_;refine Ord.K ?_;refine Ord.X ?_;refine wpList_store_row D _ _ _ D w.heap.size #[O Y x0,O Y x1,O Y x2,O Y x3,O Y x4,O Y x5,O Y x6] D D _ _ hres (by kernel_rfl) D (by kernel_rfl) ?_;have h3:=below_setRow h2 (bM _) (#[O Y x0,O Y x1,O Y x2,O Y x3,O Y x4,O Y x5,O Y x6]:Array aT);have hb5:=below_setRow hb1 (bM _) (#[O Y x0,O Y x1,O Y x2,O Y x3,O Y x4,O Y x5,O Y x6]:Array aT);have cS:=setRow_heap _ _ _ (#[O Y x0,O Y x1,O Y x2,O Y x3,O Y x4,O Y x5,O Y x6]:Array aT) _ _ hres;generalize(w2.setRow w.heap.size #[O Y x0,O Y x1,O Y x2,O Y x3,O Y x4,O Y x5,O Y x6])=w5 at*;go_wp2_with fail;refine cC h3 (fun h=>by cases h) ?_;refine PT ?_;refine cV ?_;clear h2 h3 hres hb1 c0 c1 c2 c3 c4 c5 c6;go_wp2;have hr:=results_cell_row (P:=bH) (fn:=Tryz.f444) Tryz.results444;refine bR (v:=aM #[O Y x0,O Y x1,O Y x2,O Y x3,O Y x4,O Y x5,O Y x6]) (hr _ w5 w.heap.size _ _ (0,0) _ D cS pM D (by kernel_rfl)) D ?_
 exact⟨D,hb5⟩
end
section
open Go.RowKit Go.Shelf NumLaw
attribute [local go_sem] Oper.semAt_some Addr.add_mid
def PE(base:Nat)(x:List UInt8 × Nat)(vs:Array aT)(W:aS):Prop:= ∃A n c,vs= #[aL A n c,O Y (x.2:Int)]∧W.ownsRow base 5 1 (aL A n c) n (bv x.1)
theorem PE.keep{base:Nat}{x:List UInt8 × Nat}{vs:Array aT}{A B:aS}{U:Nat→Prop}(h:PE base x vs A)(ha:Aw U A B)(hu: ∀k,base≤k→¬U k):PE base x vs B:=by
 obtain⟨A',n,c,e,hown⟩:=h;exact⟨A',n,c,e,iZ hown ha (fun k hk=>hu k (eU hown hk).1)⟩
theorem Sr{B:Nat}{a A' B':aS}{U:Nat→Prop}(h:aV B a A')(ha:Aw U A' B')(hu: ∀k,U k→B≤k)(hB:B≤A'.heap.size):aV B a B':=
 ⟨ha.os.trans h.os,ha.tape.trans h.tape,ha.output.trans h.output,bU h.size ha.size,fun k hk=>(ha.block k (by omega) (fun hU=>by have:=hu k hU;omega)).trans (h.block k hk)⟩
end
section
open Go.RowKit NumLaw
abbrev gM:=@cell_setRow_other
theorem R0(A:Option aW)(n c B:Nat)(b:List UInt8)(w:aS)(h':Rd w B 1 A n c (bv b))(hB:B≤w.heap.size)(hn:n≤1000000000):
  aU bH 452 #[aL A n c] w fun e w'=> ∃x0 x1 x2 x3 x4 x5 x6 x7:Int,[x0,x1,x2,x3,x4,x5,x6,x7]=nQ vU b∧e=aJ (aN #[aM #[O Y x0,O Y x1,O Y x2,O Y x3,O Y x4,O Y x5,O Y x6,O Y x7],O Y (jM vU b:Int)])∧aV w.heap.size w w':=by
 obtain⟨oE,wE⟩: ∃oE,oE=jM vU b:=⟨_,D⟩;obtain⟨oT,DR⟩: ∃oT,oT=nQ vU b:=⟨_,D⟩;have tx:oE≠0→oT=List.replicate 8 0:=fun h=>by rw[DR];unfold nQ;rw[bX (by rw[←wE];exact h)];rfl
 have hT1:oE=0→oT=uT vU b∧oT.length=8:=fun h=>by
  have h':jM vU b=0:=by rw[←wE];exact h
  have e:oT=uT vU b:=by rw[DR];unfold nQ;rw[bY h']
  exact⟨e,by rw[e,(sU h').2.2];rfl⟩
 rw[←wE,←DR];have HT0:=bK tx;have HT1:=bK hT1;have HoE:=bK wE;clear wE DR tx hT1;have hb1:aV w.heap.size w (w.alloc (aI #[O Y 0,O Y 0,O Y 0,O Y 0,O Y 0,O Y 0,O Y 0,O Y 0] 58)):=(bP _ _).alloc (bM _) _;have hres:=bS w (aI #[O Y 0,O Y 0,O Y 0,O Y 0,O Y 0,O Y 0,O Y 0,O Y 0] 58);go_enter func452,ntmps452;go_wp2_with fail;generalize(w.alloc (aI #[O Y 0,O Y 0,O Y 0,O Y 0,O Y 0,O Y 0,O Y 0,O Y 0] 58))=w1 at*;have fF:=bT hres;go_fit(K5 w1);rintro e w2 ⟨Af,nf,cf,rfl,xg,Gu,hb12⟩;have hb2:=eI hb1 hb12;replace hres:=bV hres hb12 fF;go_wp2_with fail;go_fit(qR Af nf cf w2.heap.size vU A n c B b w2 Gu (bM _) (h'.up (hb2.mono hB)) (bU hB hb2.size) (by omega) (by omega));rw[←HoE.out];rintro e w3 ⟨At,nt,ct,rfl,hown,hb23⟩;have hb3:=eI hb2 hb23;replace hres:=bV hres hb23 (by have:=hb12.size;omega);have Lo:w.heap.size<w2.heap.size:=by have:=hb12.size;omega
 clear hb1 hb12 hb2 hb23 Gu fF;by_cases he:oE=0
 ·obtain⟨q1,q2⟩:=HT1.out he;rw[←q1] at hown
  obtain⟨x0,x1,x2,x3,x4,x5,x6,x7,rfl⟩: ∃x0 x1 x2 x3 x4 x5 x6 x7:Int,oT= [x0,x1,x2,x3,x4,x5,x6,x7]:=by
   match oT,q2 with
   | [x0,x1,x2,x3,x4,x5,x6,x7],_=>exact⟨_,_,_,_,_,_,_,_,D⟩
  obtain rfl:nt=8:=by have:=hown.1;simp at this;omega
  subst he;clear q1 q2 HT0 HT1 HoE;go_wp2_with fail;obtain⟨g,rfl,Km,hg2,jI⟩:=Nh hown (by omega);have Kd:w.heap.size≠g:=by omega
  have k0:w3.cell? ⟨g,0,J⟩=aE (O Y x0):=jI 0 _ D;have k1:w3.cell? ⟨g,1,J⟩=aE (O Y x1):=jI 1 _ D;have k2:w3.cell? ⟨g,2,J⟩=aE (O Y x2):=jI 2 _ D;have k3:w3.cell? ⟨g,3,J⟩=aE (O Y x3):=jI 3 _ D;have k4:w3.cell? ⟨g,4,J⟩=aE (O Y x4):=jI 4 _ D;have k5:w3.cell? ⟨g,5,J⟩=aE (O Y x5):=jI 5 _ D;have k6:w3.cell? ⟨g,6,J⟩=aE (O Y x6):=jI 6 _ D;have k7:w3.cell? ⟨g,7,J⟩=aE (O Y x7):=jI 7 _ D;clear hown jI;refine cQ (fun w'=>w'.cell? ⟨g,0,J⟩=aE (O Y x0)∧w'.cell? ⟨g,1,J⟩=aE (O Y x1)∧w'.cell? ⟨g,2,J⟩=aE (O Y x2)∧w'.cell? ⟨g,3,J⟩=aE (O Y x3)∧w'.cell? ⟨g,4,J⟩=aE (O Y x4)∧w'.cell? ⟨g,5,J⟩=aE (O Y x5)∧w'.cell? ⟨g,6,J⟩=aE (O Y x6)∧w'.cell? ⟨g,7,J⟩=aE (O Y x7)) aD [] (by kernel_rfl) (by kernel_rfl) ⟨k0,k1,k2,k3,k4,k5,k6,k7⟩ ?_;replace hres:w3.drew.heap[w.heap.size]?=_:=hres;replace hb3:=hb3.drew;replace k0:w3.drew.cell? ⟨g,0,J⟩=aE (O Y x0):=k0;replace k1:w3.drew.cell? ⟨g,1,J⟩=aE (O Y x1):=k1;replace k2:w3.drew.cell? ⟨g,2,J⟩=aE (O Y x2):=k2;replace k3:w3.drew.cell? ⟨g,3,J⟩=aE (O Y x3):=k3;replace k4:w3.drew.cell? ⟨g,4,J⟩=aE (O Y x4):=k4;replace k5:w3.drew.cell? ⟨g,5,J⟩=aE (O Y x5):=k5;replace k6:w3.drew.cell? ⟨g,6,J⟩=aE (O Y x6):=k6;replace k7:w3.drew.cell? ⟨g,7,J⟩=aE (O Y x7):=k7;generalize w3.drew=w4 at*;repeat(first|refine fQ ?_|refine fP ?_)
  refine cR cO D (fun w' (hS:w'.cell? ⟨g,0,J⟩=aE (O Y x0)∧w'.cell? ⟨g,1,J⟩=aE (O Y x1)∧w'.cell? ⟨g,2,J⟩=aE (O Y x2)∧w'.cell? ⟨g,3,J⟩=aE (O Y x3)∧w'.cell? ⟨g,4,J⟩=aE (O Y x4)∧w'.cell? ⟨g,5,J⟩=aE (O Y x5)∧w'.cell? ⟨g,6,J⟩=aE (O Y x6)∧w'.cell? ⟨g,7,J⟩=aE (O Y x7))=>hS.1) ⟨k0,k1,k2,k3,k4,k5,k6,k7⟩ D (by rfl) ?_;refine PT ?_;repeat(first|refine fQ ?_|refine fP ?_)
  refine cR cO D (fun w' (hS:w'.cell? ⟨g,0,J⟩=aE (O Y x0)∧w'.cell? ⟨g,1,J⟩=aE (O Y x1)∧w'.cell? ⟨g,2,J⟩=aE (O Y x2)∧w'.cell? ⟨g,3,J⟩=aE (O Y x3)∧w'.cell? ⟨g,4,J⟩=aE (O Y x4)∧w'.cell? ⟨g,5,J⟩=aE (O Y x5)∧w'.cell? ⟨g,6,J⟩=aE (O Y x6)∧w'.cell? ⟨g,7,J⟩=aE (O Y x7))=>hS.2.1) ⟨k0,k1,k2,k3,k4,k5,k6,k7⟩ D (by rfl) ?_;refine PT ?_;repeat(first|refine fQ ?_|refine fP ?_)
  refine cR cO D (fun w' (hS:w'.cell? ⟨g,0,J⟩=aE (O Y x0)∧w'.cell? ⟨g,1,J⟩=aE (O Y x1)∧w'.cell? ⟨g,2,J⟩=aE (O Y x2)∧w'.cell? ⟨g,3,J⟩=aE (O Y x3)∧w'.cell? ⟨g,4,J⟩=aE (O Y x4)∧w'.cell? ⟨g,5,J⟩=aE (O Y x5)∧w'.cell? ⟨g,6,J⟩=aE (O Y x6)∧w'.cell? ⟨g,7,J⟩=aE (O Y x7))=>hS.2.2.1) ⟨k0,k1,k2,k3,k4,k5,k6,k7⟩ D (by rfl) ?_;refine PT ?_;repeat(first|refine fQ ?_|refine fP ?_)
  refine cR cO D (fun w' (hS:w'.cell? ⟨g,0,J⟩=aE (O Y x0)∧w'.cell? ⟨g,1,J⟩=aE (O Y x1)∧w'.cell? ⟨g,2,J⟩=aE (O Y x2)∧w'.cell? ⟨g,3,J⟩=aE (O Y x3)∧w'.cell? ⟨g,4,J⟩=aE (O Y x4)∧w'.cell? ⟨g,5,J⟩=aE (O Y x5)∧w'.cell? ⟨g,6,J⟩=aE (O Y x6)∧w'.cell? ⟨g,7,J⟩=aE (O Y x7))=>hS.2.2.2.1) ⟨k0,k1,k2,k3,k4,k5,k6,k7⟩ D (by rfl) ?_;refine PT ?_;repeat(first|refine fQ ?_|refine fP ?_)
  refine cR cO D (fun w' (hS:w'.cell? ⟨g,0,J⟩=aE (O Y x0)∧w'.cell? ⟨g,1,J⟩=aE (O Y x1)∧w'.cell? ⟨g,2,J⟩=aE (O Y x2)∧w'.cell? ⟨g,3,J⟩=aE (O Y x3)∧w'.cell? ⟨g,4,J⟩=aE (O Y x4)∧w'.cell? ⟨g,5,J⟩=aE (O Y x5)∧w'.cell? ⟨g,6,J⟩=aE (O Y x6)∧w'.cell? ⟨g,7,J⟩=aE (O Y x7))=>hS.2.2.2.2.1) ⟨k0,k1,k2,k3,k4,k5,k6,k7⟩ D (by rfl) ?_;refine PT ?_;repeat(first|refine fQ ?_|refine fP ?_)
  refine cR cO D (fun w' (hS:w'.cell? ⟨g,0,J⟩=aE (O Y x0)∧w'.cell? ⟨g,1,J⟩=aE (O Y x1)∧w'.cell? ⟨g,2,J⟩=aE (O Y x2)∧w'.cell? ⟨g,3,J⟩=aE (O Y x3)∧w'.cell? ⟨g,4,J⟩=aE (O Y x4)∧w'.cell? ⟨g,5,J⟩=aE (O Y x5)∧w'.cell? ⟨g,6,J⟩=aE (O Y x6)∧w'.cell? ⟨g,7,J⟩=aE (O Y x7))=>hS.2.2.2.2.2.1) ⟨k0,k1,k2,k3,k4,k5,k6,k7⟩ D (by rfl) ?_;refine PT ?_;repeat(first|refine fQ ?_|refine fP ?_)
  refine cR cO D (fun w' (hS:w'.cell? ⟨g,0,J⟩=aE (O Y x0)∧w'.cell? ⟨g,1,J⟩=aE (O Y x1)∧w'.cell? ⟨g,2,J⟩=aE (O Y x2)∧w'.cell? ⟨g,3,J⟩=aE (O Y x3)∧w'.cell? ⟨g,4,J⟩=aE (O Y x4)∧w'.cell? ⟨g,5,J⟩=aE (O Y x5)∧w'.cell? ⟨g,6,J⟩=aE (O Y x6)∧w'.cell? ⟨g,7,J⟩=aE (O Y x7))=>hS.2.2.2.2.2.2.1) ⟨k0,k1,k2,k3,k4,k5,k6,k7⟩ D (by rfl) ?_;refine PT ?_;repeat(first|refine fQ ?_|refine fP ?_)
  refine cR cO D (fun w' (hS:w'.cell? ⟨g,0,J⟩=aE (O Y x0)∧w'.cell? ⟨g,1,J⟩=aE (O Y x1)∧w'.cell? ⟨g,2,J⟩=aE (O Y x2)∧w'.cell? ⟨g,3,J⟩=aE (O Y x3)∧w'.cell? ⟨g,4,J⟩=aE (O Y x4)∧w'.cell? ⟨g,5,J⟩=aE (O Y x5)∧w'.cell? ⟨g,6,J⟩=aE (O Y x6)∧w'.cell? ⟨g,7,J⟩=aE (O Y x7))=>hS.2.2.2.2.2.2.2) ⟨k0,k1,k2,k3,k4,k5,k6,k7⟩ D (by rfl) ?_;refine PT ?_;repeat(first|refine fQ ?_|refine fP ?_)
  refine qB ?_;refine wpList_store_row D _ _ _ D w.heap.size #[O Y x0,O Y x1,O Y x2,O Y x3,O Y x4,O Y x5,O Y x6,O Y x7] D D _ _ hres (by kernel_rfl) D (by kernel_rfl) ?_;have hb5:=below_setRow hb3 (bM _) (#[O Y x0,O Y x1,O Y x2,O Y x3,O Y x4,O Y x5,O Y x6,O Y x7]:Array aT);have cS:=setRow_heap _ _ _ (#[O Y x0,O Y x1,O Y x2,O Y x3,O Y x4,O Y x5,O Y x6,O Y x7]:Array aT) _ _ hres;replace k0:=(gM w4 w.heap.size (#[O Y x0,O Y x1,O Y x2,O Y x3,O Y x4,O Y x5,O Y x6,O Y x7]:Array aT) ⟨g,0,J⟩ (oL Kd)).trans k0;replace k1:=(gM w4 w.heap.size (#[O Y x0,O Y x1,O Y x2,O Y x3,O Y x4,O Y x5,O Y x6,O Y x7]:Array aT) ⟨g,1,J⟩ (oL Kd)).trans k1;replace k2:=(gM w4 w.heap.size (#[O Y x0,O Y x1,O Y x2,O Y x3,O Y x4,O Y x5,O Y x6,O Y x7]:Array aT) ⟨g,2,J⟩ (oL Kd)).trans k2;replace k3:=(gM w4 w.heap.size (#[O Y x0,O Y x1,O Y x2,O Y x3,O Y x4,O Y x5,O Y x6,O Y x7]:Array aT) ⟨g,3,J⟩ (oL Kd)).trans k3;replace k4:=(gM w4 w.heap.size (#[O Y x0,O Y x1,O Y x2,O Y x3,O Y x4,O Y x5,O Y x6,O Y x7]:Array aT) ⟨g,4,J⟩ (oL Kd)).trans k4;replace k5:=(gM w4 w.heap.size (#[O Y x0,O Y x1,O Y x2,O Y x3,O Y x4,O Y x5,O Y x6,O Y x7]:Array aT) ⟨g,5,J⟩ (oL Kd)).trans k5;replace k6:=(gM w4 w.heap.size (#[O Y x0,O Y x1,O Y x2,O Y x3,O Y x4,O Y x5,O Y x6,O Y x7]:Array aT) ⟨g,6,J⟩ (oL Kd)).trans k6;replace k7:=(gM w4 w.heap.size (#[O Y x0,O Y x1,O Y x2,O Y x3,O Y x4,O Y x5,O Y x6,O Y x7]:Array aT) ⟨g,7,J⟩ (oL Kd)).trans k7;generalize(w4.setRow w.heap.size #[O Y x0,O Y x1,O Y x2,O Y x3,O Y x4,O Y x5,O Y x6,O Y x7])=w5 at*;go_wp2_with fail;refine cC ⟨k0,k1,k2,k3,k4,k5,k6,k7⟩ (fun h=>by cases h) ?_;refine PT ?_;repeat(first|refine fQ ?_|refine fP ?_)
  refine cV ?_;clear k0 k1 k2 k3 k4 k5 k6 k7 hres hb3;have c0:=bL (i:=0) (v:=O Y x0) cS D;have c1:=bL (i:=1) (v:=O Y x1) cS D;have c2:=bL (i:=2) (v:=O Y x2) cS D;have c3:=bL (i:=3) (v:=O Y x3) cS D;have c4:=bL (i:=4) (v:=O Y x4) cS D;have c5:=bL (i:=5) (v:=O Y x5) cS D;have c6:=bL (i:=6) (v:=O Y x6) cS D;have c7:=bL (i:=7) (v:=O Y x7) cS D;go_wp2;refine bR (v:=aN #[aM #[O Y x0,O Y x1,O Y x2,O Y x3,O Y x4,O Y x5,O Y x6,O Y x7],O Y 0]) (by simp[results,go_sem,c0,c1,c2,c3,c4,c5,c6,c7]) D ?_;exact⟨x0,x1,x2,x3,x4,x5,x6,x7,D,D,hb5⟩
 ·have zZ: ¬(oE:Int)=0:=by omega
  clear hown;go_wp2_with(with_reducible refine Iu ?_);refine eL (wpList_store_row D _ _ _ D w.heap.size #[O Y 0,O Y 0,O Y 0,O Y 0,O Y 0,O Y 0,O Y 0,O Y 0] D D _ _ hres (by kernel_rfl) D (by kernel_rfl) ?_);have hb5:=below_setRow hb3 (bM _) (#[O Y 0,O Y 0,O Y 0,O Y 0,O Y 0,O Y 0,O Y 0,O Y 0]:Array aT);have cS:=setRow_heap _ _ _ (#[O Y 0,O Y 0,O Y 0,O Y 0,O Y 0,O Y 0,O Y 0,O Y 0]:Array aT) _ _ hres;generalize(w3.setRow w.heap.size #[O Y 0,O Y 0,O Y 0,O Y 0,O Y 0,O Y 0,O Y 0,O Y 0])=w5 at*;have c0:=bL (i:=0) (v:=O Y 0) cS D;have c1:=bL (i:=1) (v:=O Y 0) cS D;have c2:=bL (i:=2) (v:=O Y 0) cS D;have c3:=bL (i:=3) (v:=O Y 0) cS D;have c4:=bL (i:=4) (v:=O Y 0) cS D;have c5:=bL (i:=5) (v:=O Y 0) cS D;have c6:=bL (i:=6) (v:=O Y 0) cS D;have c7:=bL (i:=7) (v:=O Y 0) cS D;go_wp2;refine bR (v:=aN #[aM #[O Y 0,O Y 0,O Y 0,O Y 0,O Y 0,O Y 0,O Y 0,O Y 0],O Y oE]) (by simp[results,go_sem,c0,c1,c2,c3,c4,c5,c6,c7]) D ?_;exact⟨0,0,0,0,0,0,0,0,(HT0.out he).symm,D,hb5⟩
end
section
open Go.RowKit NumLaw
attribute [local go_sem] Addr.add_mid
attribute [-go_sem] run_eql_struct
theorem EY:Tryz.prog.stoodInHeld 239=aD:=by kernel_rfl
theorem Zt{w:aS}(g:Nat)(cs:Array aT):Aw (fun k=>k=g) w (w.setRow g cs):=
 ⟨setRow_os w g cs,setRow_tape w g cs,setRow_output w g cs,by rw[setRow_size];exact bM _,fun k _ hu=>setRow_other w g k cs hu⟩
end
section
open Go.RowKit NumLaw
attribute [local go_sem] Addr.add_mid
abbrev uK:=@underlying54
def PJ(b:List UInt8)(w:aS)(e:aX)(w':aS):Prop:=
 ∃(A:Option aW) (n c:Nat),e=aJ (aN #[aM #[O Y (xB b),aL A n c],O Y (nN b:Int)])∧RdR w' w'.heap.size 7 A n c ((yS b).map I9)∧aV w.heap.size w w'
def RetTSatF(b:List UInt8)(w:aS)(e:aX)(w':aS):Prop:=
 ∃(A:Option aW) (n c:Nat),e=aJ (aN #[aM #[O Y (xB b),aL A n c],O Y (nN b:Int)])∧RdR w' w'.heap.size 7 A n c ((yS b).map I9)∧(∀p,A=aE p→w.heap.size≤p.block)∧aV w.heap.size w w'
theorem RetTSatF.plain{b:List UInt8}{w:aS}{e:aX}{w':aS}(h:RetTSatF b w e w'):PJ b w e w':=by
 obtain⟨A,n,c,h1,h2,_,h3⟩:=h;exact⟨A,n,c,h1,h2,h3⟩
theorem FL:(Tryz.prog.info? 239).map (fun i=>(i.zero,i.size,i.bytes))=aE (aE (aM #[O Y 0,O Y 0,O Y 0,O Y 0,O Y 0,O Y 0,O Y 0]),7,56):=by kernel_rfl
theorem OJ(s:List Int): ∀u∈I9 s,u.oneCell'=aF:=by
 intro u hu;obtain⟨z,_,rfl⟩:=List.mem_map.1 hu;rfl
theorem TH(l:List (List Int))(s:List Int):(l.map I9).flatten++I9 s=((l++ [s]).map I9).flatten:=by simp
def WI:aT→Nat
 |aL _ n _=>n
 |_=>0
theorem zG{b:List UInt8}{w w5:aS}{oE:Nat}(he:oE=nN b)(h0:oE≠0)(hb:aV w.heap.size w w5):RetTSatF b w (aJ (aN #[aM #[O Y 0,aL J 0 0],O Y (oE:Int)])) w5:=by
 obtain⟨h1,h2⟩:=Up (b:=b) (by rw[←he];exact h0);exact⟨J,0,0,by rw[h1,he],by rw[h2];exact kR _ _ _,fun _ h=>(by cases h),hb⟩
theorem Sw{b:List UInt8}{N:Nat}(hl:b.length=12*N+8)(hh:jM tS (b.take 8)=0)(hN:It b=N):nN b=(qY N (b.drop 8)).1:=by
 unfold nN;rw[bX (by omega),bY hh,hN,bX (by omega),bX (by omega)]
theorem Zj{m:Nat}{R:List UInt8}(h:jM Bk (R.take 12)=0):qY (m+1) R=((qY m (R.drop 12)).1,uT Bk (R.take 12)::(qY m (R.drop 12)).2):=by
 show(if jM Bk _=0 then _ else _)=_;rw[bY h]
theorem Wr{m:Nat}{R:List UInt8}(h:jM Bk (R.take 12)≠0):qY (m+1) R=(jM Bk (R.take 12),[]):=by
 show(if jM Bk _=0 then _ else _)=_;rw[bX h]
theorem Gk(t:aY){P:aZ}{w:aS}{ops:Array bA}{rest:List bA}{a:Act}{Q:Exit→Act→aS→Prop}{d:Option Tmp}{ty:aY}{pos:String}{af:Array Edge}
  (h:Stop (wpList P ops Q (⟨d,.build t #[],ty,pos,af,J⟩::rest) a w)):wpList P ops Q (⟨d,.build t #[],ty,pos,af,J⟩::rest) a w:=h
def TkI(B g0 g6:Nat)(w:aS)(t:Int)(N:Nat)(r0:List UInt8)(k m:Nat)(pre:List (List Int))(R:List UInt8)(Ar A2:Option aW)(cr c2:Nat)(wr:aS):Prop:=
 k+m=N∧pre.length=k∧Rd wr B 1 Ar (12*m) cr (bv R)∧wr.heap[g6]?=aE (aI #[O Y t,aL A2 k c2] 56)∧
  wr.heap[g0]?=aE (aI #[O Y 0,aL J 0 0] 56)∧wr.ownsRow (g6+1) 239 7 (aL A2 k c2) k (pre.map I9).flatten∧aV w.heap.size w wr∧qY N r0=((qY m R).1,pre++(qY m R).2)∧∀s∈pre,s.length=7
theorem Ky(A:Option aW)(n c B:Nat)(b:List UInt8)(w:aS)(h:Rd w B 1 A n c (bv b))(hB:B≤w.heap.size)(hn:n≤1000000000):
  aU bH 440 #[aL A n c] w (RetTSatF b w):=by
 have hlb:=h.blen;have hle:=h.le;have hmx:=h.max;unfold bB at hmx;obtain⟨i0,hi⟩:=eW nP;obtain⟨i1,As⟩:=eW FL;have hb1:aV w.heap.size w (w.alloc (aI #[O Y 0,aL J 0 0] 56)):=(bP _ _).alloc (bM _) _;have hres:=bS w (aI #[O Y 0,aL J 0 0] 56);have Hlb:=bK hlb;have Hi1:=bK As;have Hi:=bK hi;by_cases h8:n<8
 ·have e2:2=nN b:=by unfold nN;rw[bY (by omega)]
  have E2:=bK e2;clear e2 hlb hi As;go_enter func440,ntmps440;go_wp2_with(first|(with_reducible refine xM 56 ?_)|(with_reducible refine pF 56 ?_));generalize(w.alloc (aI #[O Y 0,aL J 0 0] 56))=w1 at*;refine eL (wpList_store_row D _ _ _ D w.heap.size #[O Y 0,aL J 0 0] D D _ _ hres (by kernel_rfl) D (by kernel_rfl) ?_);have cS:=setRow_heap _ _ _ (#[O Y 0,aL J 0 0]:Array aT) _ _ hres;have hb5:=below_setRow hb1 (bM _) (#[O Y 0,aL J 0 0]:Array aT);generalize(w1.setRow w.heap.size #[O Y 0,aL J 0 0])=v5 at*;have e0:=bL (i:=0) (v:=O Y 0) cS D;have e1:=bL (i:=1) (v:=aL J 0 0) cS D;go_wp2;exact bR (v:=aN #[aM #[O Y 0,aL J 0 0],O Y 2]) (by simp[results,go_sem,e0,e1]) D (zG (oE:=2) E2.out (by omega) hb5)
 obtain⟨r,rfl⟩: ∃r,n=r+8:=⟨n-8,by omega⟩;have tz: ∀w,(Instr.slice 22 (aL A (r+8) c) J (aE (O Y 8)) J).run bH w= .ok (aL A 8 c) w:=tL (P:=bH) dH hi.1 A (r+8) c 8 (by omega)
 have NC: ∀w,(Instr.slice 22 (aL A (r+8) c) (aE (O Y 8)) J J).run bH w= .ok (aL (oH A c 8 1) r (c-8)) w:=fun w=>by
  have:=rG (P:=bH) dH hi.1 hi.2.2.1 A (r+8) c 8 (by omega) w
  rwa[Nat.add_sub_cancel] at this
 obtain⟨qT,ua⟩: ∃v,v=uT tS (b.take 8):=⟨_,D⟩;obtain⟨qE,ub⟩: ∃v,v=jM tS (b.take 8):=⟨_,D⟩;have HqT:=bK ua;have HqE:=bK ub;clear hlb ua ub hi As;go_enter func440,ntmps440;go_wp2_with fail;generalize(w.alloc (aI #[O Y 0,aL J 0 0] 56))=w1 at*;have fF:=bT hres;refine cQ (fun _=>True) aD [] (by kernel_rfl) (by kernel_rfl) cM ?_;have hb2:aV w.heap.size w w1.drew:=hb1.drew;replace hres:w1.drew.heap[w.heap.size]?=_:=hres;have h2:Rd w1.drew B 1 A (r+8) c (bv b):=h.up (hb2.mono hB);generalize w1.drew=w2 at*;clear hb1 fF;refine Ord.X ?_;go_wp2_with fail;go_fit(Ny w2);rintro e w3 ⟨Af,nf,cf,rfl,xg,Gu,hb23⟩;have hb3:=eI hb2 hb23;have h3:=h2.up (hb23.mono (bU hB hb2.size));replace hres:=bV hres hb23 (bT hres);go_wp2_with fail;refine cC cM (fun h=>by cases h) ?_;refine PT ?_;refine Ord.K ?_;refine Ord.K ?_;clear hb2 hb23 h2;refine Ord.X ?_;go_wp2_with fail;go_fit(qR Af nf cf w3.heap.size tS A 8 c B (b.take 8) w3 Gu (bM _) (h3.btake (by omega)) (bU hB hb3.size) (by omega) (by omega));rw[←HqE.out,←HqT.out];rintro e w4 ⟨At,nt,ct,rfl,hown,hb34⟩;have hb4:=eI hb3 hb34;have h4:=h3.up (hb34.mono (bU hB hb3.size));replace hres:=bV hres hb34 (bT hres);go_wp2_with fail;refine cC cM (fun h=>by cases h) ?_;refine PT ?_;iterate 5 refine Ord.K ?_
 refine cV ?_;by_cases hq: ¬qE=0
 ·have NZ: ¬(qE:Int)=0:=by omega
  have E2:Hid (qE=nN b):=bK (by unfold nN;rw[bX (by rw[Hlb.out];omega),bX (by rw[←HqE.out];exact hq)];exact HqE.out);clear hb3 hb34 h3 Gu hown;go_wp2_with(with_reducible refine sT [56] ?_);refine eL (wpList_store_row D _ _ _ D w.heap.size #[O Y 0,aL J 0 0] D D _ _ hres (by kernel_rfl) D (by kernel_rfl) ?_);have cS:=setRow_heap _ _ _ (#[O Y 0,aL J 0 0]:Array aT) _ _ hres;have hb5:=below_setRow hb4 (bM _) (#[O Y 0,aL J 0 0]:Array aT);generalize(w4.setRow w.heap.size #[O Y 0,aL J 0 0])=v5 at*;have e0:=bL (i:=0) (v:=O Y 0) cS D;have e1:=bL (i:=1) (v:=aL J 0 0) cS D;go_wp2;exact bR (v:=aN #[aM #[O Y 0,aL J 0 0],O Y qE]) (by simp[results,go_sem,e0,e1]) D (zG (oE:=qE) E2.out hq hb5)
 replace hq:=Decidable.not_not.mp hq;obtain⟨t,nn,hv,Ao,aJy,_⟩:=lz (b:=b.take 8) (by rw[←HqE.out];exact hq);obtain⟨N,rfl⟩: ∃N:Nat,nn=N:=⟨nn.toNat,by omega⟩;have uc:qT= [t,1,(N:Int),0]:=HqT.out.trans hv;have hN:It b=N:=by unfold It;rw[hv];rfl
 have HN:=bK hN;have Hv:=bK hv;subst uc;obtain rfl:nt=4:=by have:=hown.1;simp at this;omega
 obtain⟨g4,rfl,Km,hg2,jI⟩:=Nh hown (by omega);have k0:w4.cell? ⟨g4,0,J⟩=aE (O Y t):=jI 0 _ D;have k2:w4.cell? ⟨g4,2,J⟩=aE (O Y (N:Int)):=jI 2 _ D;have Hq:=bK (HqE.out.symm.trans hq);subst hq;rw[show((0:Nat):Int)=0 from D];have hbx:aV w4.heap.size w4 (w4.alloc (aI #[O Y t,aL J 0 0] 56)):=(bP _ _).alloc (bM _) _;have hb5:=eI hb4 hbx;have h5:=h4.up (hbx.mono (bU hB hb4.size));have gU:=bS w4 (aI #[O Y t,aL J 0 0] 56);have Ti:=(hbx.cell (p:=⟨g4,2,J⟩) hg2).trans k2;have E6:=bT hres;replace hres:=bV hres hbx E6;have hR:=h5.bdrop (k:=8) (by omega);rw[Nat.add_sub_cancel] at hR;clear hb3 hb34 h3 Gu hown jI hv hN h4 hb4 hbx HqT;by_cases c1:r<12*N
 ·have E2:Hid (2=nN b):=bK (by unfold nN;rw[bX (by rw[Hlb.out];omega),bY Hq.out,HN.out,bY (by rw[Hlb.out];omega)]);go_wp2_with(with_reducible refine Gk 56 ?_);refine eL ?_;generalize(w4.alloc (aI #[O Y t,aL J 0 0] 56))=w5 at*;go_wp2_with(with_reducible refine sT [56] ?_);refine eL (wpList_store_row D _ _ _ D w.heap.size #[O Y 0,aL J 0 0] D D _ _ hres (by kernel_rfl) D (by kernel_rfl) ?_);have cS:=setRow_heap _ _ _ (#[O Y 0,aL J 0 0]:Array aT) _ _ hres;have hb6:=below_setRow hb5 (bM _) (#[O Y 0,aL J 0 0]:Array aT);generalize(w5.setRow w.heap.size #[O Y 0,aL J 0 0])=v5 at*;have e0:=bL (i:=0) (v:=O Y 0) cS D;have e1:=bL (i:=1) (v:=aL J 0 0) cS D;go_wp2;exact bR (v:=aN #[aM #[O Y 0,aL J 0 0],O Y 2]) (by simp[results,go_sem,e0,e1]) D (zG (oE:=2) E2.out (by omega) hb6)
 by_cases c2:12*N<r
 ·have E2:Hid (7=nN b):=bK (by unfold nN;rw[bX (by rw[Hlb.out];omega),bY Hq.out,HN.out,bX (by rw[Hlb.out];omega),bY (by rw[Hlb.out];omega)]);go_wp2_with(with_reducible refine Gk 56 ?_);refine eL ?_;generalize(w4.alloc (aI #[O Y t,aL J 0 0] 56))=w5 at*;go_wp2_with(with_reducible refine sT [56] ?_);refine eL (wpList_store_row D _ _ _ D w.heap.size #[O Y 0,aL J 0 0] D D _ _ hres (by kernel_rfl) D (by kernel_rfl) ?_);have cS:=setRow_heap _ _ _ (#[O Y 0,aL J 0 0]:Array aT) _ _ hres;have hb6:=below_setRow hb5 (bM _) (#[O Y 0,aL J 0 0]:Array aT);generalize(w5.setRow w.heap.size #[O Y 0,aL J 0 0])=v5 at*;have e0:=bL (i:=0) (v:=O Y 0) cS D;have e1:=bL (i:=1) (v:=aL J 0 0) cS D;go_wp2;exact bR (v:=aN #[aM #[O Y 0,aL J 0 0],O Y 7]) (by simp[results,go_sem,e0,e1]) D (zG (oE:=7) E2.out (by omega) hb6)
 obtain rfl:r=12*N:=by omega
 rw[show((12*N:Nat):Int)=12*(N:Int) by omega];have HM:=bK (Sw Hlb.out Hq.out HN.out);have HT:Hid (nN b=0→xB b=t∧yS b=(qY N (b.drop 8)).2):=bK (fun h=>⟨by unfold xB;rw[bY h,Hv.out];rfl,by unfold yS;rw[bY h,HN.out]⟩);clear c1 c2;go_wp2_with fail;generalize(w4.alloc (aI #[O Y t,aL J 0 0] 56))=w5 at*;obtain⟨g6,hg6⟩: ∃g,g=w4.heap.size:=⟨_,D⟩;rw[←hg6] at gU E6 ⊢;clear hg6 k0 k2 Ti Km hg2;go_loopw [7] (fun s wr=> ∃(k m:Nat) (pre:List (List Int)) (R:List UInt8) (Ar A2:Option aW) (cr c2:Nat),s=aL Ar (12*m) cr∧TkI B w.heap.size g6 w t N (b.drop 8) k m pre R Ar A2 cr c2 wr) (fun s _=>WI s);case atStart=>exact⟨0,N,[],b.drop 8,oH A c 8 1,J,c-8,0,D,by omega,D,hR,gU,hres,dF _ _ _ _,hb5,by simp,by simp⟩
 case round=>
  clear hR gU hres hb5 h5 tz NC w5;obtain⟨k,m,pre,R,Ar,A2,cr,c2,rfl,hkm,Am,hR,gU,hres,hown,hb,hst,hpre⟩:=hrel;have Hpl:=bK Am;have Hst:=bK hst;have Hpre:=bK hpre;clear Am hst hpre;by_cases hm:m=0
  ·subst hm;have hE:0=nN b:=by rw[HM.out,Hst.out];rfl
   obtain⟨hT1,hT2⟩:=HT.out hE.symm;have hL:yS b=pre:=by rw[hT2,Hst.out];simp[qY]
   have HE:=bK hE;have HL:=bK hL;have HT1:=bK hT1;clear hE hT1 hT2 hL;rw[Nat.mul_zero] at hR;rw[Nat.mul_zero];go_wp2_with(with_reducible refine sT [56] ?_);refine eL (wpList_load_row D _ _ D g6 D _ _ _ _ gU underlying56 D (by kernel_rfl) ?_);go_wp2_with(with_reducible refine sT [56] ?_);refine eL (wpList_store_row D _ _ _ D w.heap.size #[O Y t,aL A2 k c2] D D _ _ hres (by kernel_rfl) D (by kernel_rfl) ?_);have iW:=setRow_heap _ _ _ (#[O Y t,aL A2 k c2]:Array aT) _ _ hres;have hb6:=below_setRow hb (bM _) (#[O Y t,aL A2 k c2]:Array aT);have E4:=iZ hown (Zt w.heap.size (#[O Y t,aL A2 k c2]:Array aT)) (fun k hk hu=>by have:=(eU hown hk).1;omega);generalize(wr.setRow w.heap.size #[O Y t,aL A2 k c2])=v5 at*;have e0:=bL (i:=0) (v:=O Y t) iW D;have e1:=bL (i:=1) (v:=aL A2 k c2) iW D;have hrr:=RdR.own (ls:=pre.map I9) E4 (by rw[List.length_map];exact Hpl.out) (fun r hr=>by obtain⟨s,hs,rfl⟩:=List.mem_map.1 hr;unfold I9;rw[List.length_map];exact Hpre.out s hs);go_wp2;refine bR (v:=aN #[aM #[O Y t,aL A2 k c2],O Y 0]) (by simp[results,go_sem,e0,e1]) D ⟨A2,k,c2,by rw[HT1.out,←HE.out];rfl,by rw[HL.out];exact hrr,fun p hp=>(by subst hp;exact bU (by omega) (eU hown D).1),hb6⟩
  ·obtain⟨m,rfl⟩: ∃j,m=j+1:=⟨m-1,by omega⟩;have aJ0:=hR.le;have aCm:=hR.max;unfold bB at aCm;have aCn: ∀w,(Instr.slice 22 (aL Ar (12*(m+1)) cr) J (aE (O Y 12)) J).run bH w= .ok (aL Ar 12 cr) w:=tL (P:=bH) dH Hi.out.1 Ar (12*(m+1)) cr 12 (by omega)
   have aFq: ∀w,(Instr.slice 22 (aL Ar (12*(m+1)) cr) (aE (O Y 12)) J J).run bH w= .ok (aL (oH Ar cr 12 1) (12*m) (cr-12)) w:=fun w=>by
    have:=rG (P:=bH) dH Hi.out.1 Hi.out.2.2.1 Ar (12*(m+1)) cr 12 (by omega) w
    rwa[show 12*(m+1)-12=12*m by omega] at this
   obtain⟨zsT,hsT⟩: ∃v,v=uT Bk (R.take 12):=⟨_,D⟩;obtain⟨sE,hsE⟩: ∃v,v=jM Bk (R.take 12):=⟨_,D⟩;have HsT:=bK hsT;have HsE:=bK hsE;have hg6:=bT gU;have MA:=bT hres;clear hsT hsE hm;go_wp2_with fail;refine cQ (fun _=>True) aD [] (by kernel_rfl) (by kernel_rfl) cM ?_;replace hb:=hb.drew;replace hres:wr.drew.heap[w.heap.size]?=_:=hres;replace gU:wr.drew.heap[g6]?=_:=gU;replace hR:=hR.up (w':=wr.drew) (bP _ _).drew;replace hown:=jK hown (w':=wr.drew) (bP _ _).drew (bM _);replace hg6:g6<wr.drew.heap.size:=hg6;replace MA:w.heap.size<wr.drew.heap.size:=MA;generalize wr.drew=v1 at*;refine Ord.X ?_;go_wp2_with fail;go_fit(Lc v1);rintro e v2 ⟨Ag,ng,cg,rfl,hng,hrg,hb12⟩;go_wp2_with fail;refine cC cM (fun h=>by cases h) ?_;refine PT ?_;refine Ord.K ?_;refine Ord.K ?_;replace hR:=hR.up (hb12.mono (bU hB hb.size));replace hres:=bV hres hb12 MA;replace gU:=bV gU hb12 hg6;replace hown:=jK hown hb12 (bM _);replace hb:=eI hb hb12;clear hb12;refine Ord.X ?_;go_wp2_with fail;go_fit(qR Ag ng cg v2.heap.size Bk Ar 12 cr B (R.take 12) v2 hrg (bM _) (hR.btake (by omega)) (bU hB hb.size) (by omega) (by omega));rw[←HsE.out,←HsT.out];rintro e v3 ⟨Av,nv,cv,rfl,hownv,hb23⟩;replace hR:=hR.up (hb23.mono (bU hB hb.size));replace hres:=bV hres hb23 (bT hres);replace gU:=bV gU hb23 (bT gU);replace hown:=jK hown hb23 (bM _);replace hb:=eI hb hb23;go_wp2_with fail;refine cC cM (fun h=>by cases h) ?_;refine PT ?_;iterate 5 refine Ord.K ?_
   refine cV ?_;clear hb23 hrg MA hg6;by_cases wT: ¬sE=0
   ·have aJ1: ¬(sE:Int)=0:=by omega
    have E2:Hid (sE=nN b):=bK (by rw[HM.out,Hst.out,Wr (by rw[←HsE.out];exact wT)];exact HsE.out);clear hown hownv hR;go_wp2_with(with_reducible refine sT [56] ?_);refine eL (wpList_store_row D _ _ _ D w.heap.size #[O Y 0,aL J 0 0] D D _ _ hres (by kernel_rfl) D (by kernel_rfl) ?_);have cS:=setRow_heap _ _ _ (#[O Y 0,aL J 0 0]:Array aT) _ _ hres;have hb5:=below_setRow hb (bM _) (#[O Y 0,aL J 0 0]:Array aT);generalize(v3.setRow w.heap.size #[O Y 0,aL J 0 0])=v5 at*;have e0:=bL (i:=0) (v:=O Y 0) cS D;have e1:=bL (i:=1) (v:=aL J 0 0) cS D;go_wp2;exact bR (v:=aN #[aM #[O Y 0,aL J 0 0],O Y sE]) (by simp[results,go_sem,e0,e1]) D (zG (oE:=sE) E2.out wT hb5)
   replace wT:=Decidable.not_not.mp wT;have Zc:qY N (b.drop 8)=((qY m (R.drop 12)).1,(pre++ [zsT])++(qY m (R.drop 12)).2):=by rw[Hst.out,Zj (by rw[←HsE.out];exact wT),←HsT.out];simp
   have hs7:zsT.length=7:=by rw[HsT.out];exact(sU (by rw[←HsE.out];exact wT)).2.2
   have Hstep:=bK Zc
   have Hpre2:Hid (∀s∈pre++ [zsT],s.length=7):=bK (fun s hs=>by
    rcases List.mem_append.1 hs with hs|hs
    ·exact Hpre.out s hs
    ·simp at hs;rw[hs];exact hs7)
   have Hpl2:Hid ((pre++ [zsT]).length=k+1):=bK (by rw[cZ,Hpl.out];rfl);have hRn:=hR.bdrop (k:=12) (by omega);rw[show 12*(m+1)-12=12*m by omega] at hRn;obtain rfl:nv=7:=by have:=hownv.1;simp at this;omega
   have hrv:=oA hownv;subst wT;rw[show((0:Nat):Int)=0 from D];obtain⟨x0,x1,x2,x3,x4,x5,x6,rfl⟩:=bk zsT hs7;have J5: ∀w,Rd w v3.heap.size 1 Av 7 cv ([x0,x1,x2,x3,x4,x5,x6].map (Value.int Y))→v3.heap.size≤w.heap.size→aU bH 444 #[aL Av 7 cv] w fun e w'=>e=aJ (aM #[O Y x0,O Y x1,O Y x2,O Y x3,O Y x4,O Y x5,O Y x6])∧aV w.heap.size w w':=fun w hrd hle=>Us Av cv v3.heap.size [x0,x1,x2,x3,x4,x5,x6] D w hrd hle;have Hof:=bK J5;clear Zc hs7 hR hownv J5 HsT HsE;go_wp2_with fail;refine cQ (fun _=>True) aF [65] (by kernel_rfl) (by kernel_rfl) cM ?_;replace hb:=hb.drew;replace hres:v3.drew.heap[w.heap.size]?=_:=hres;replace gU:v3.drew.heap[g6]?=_:=gU;replace hRn:=hRn.up (w':=v3.drew) (bP _ _).drew;replace hown:=jK hown (w':=v3.drew) (bP _ _).drew (bM _);replace hrv:=hrv.up (w':=v3.drew) (bP _ _).drew;have tt:v3.heap.size≤v3.drew.heap.size:=bM _;generalize M9:v3.drew=v4 at*;clear M9;have k1:v4.cell? ⟨g6,1,J⟩=aE (aL A2 k c2):=bL gU D;refine Ord.K ?_;refine eP uK D k1 D (by rfl) (by kernel_rfl) ?_;refine PT ?_;refine Ord.K ?_;refine Ord.X ?_;go_wp2_with fail;go_fit(Hof.out v4 hrv tt);rintro e v5 ⟨rfl,hb45⟩;go_wp2_with fail;refine cC cM (fun _=>hb45) ?_;refine PT ?_;replace hRn:=hRn.up (hb45.mono (bU hB hb.size));replace hres:=bV hres hb45 (bT hres);replace gU:=bV gU hb45 (bT gU);replace hown:=jK hown hb45 (bM _);replace hb:=eI hb hb45;clear hb45 tt hrv k1;refine Ord.X ?_;go_wp2;have hbn:aV v5.heap.size v5 (v5.alloc (aI #[O Y x0,O Y x1,O Y x2,O Y x3,O Y x4,O Y x5,O Y x6] 239)):=(bP _ _).alloc (bM _) _;have hrd:Rd (v5.alloc (aI #[O Y x0,O Y x1,O Y x2,O Y x3,O Y x4,O Y x5,O Y x6] 239)) (v5.heap.size+1) 7 (aE ⟨v5.heap.size,0,J⟩) 1 1 (I9 [x0,x1,x2,x3,x4,x5,x6]):=by have:=(sQ (size:=7) (e:=239) v5 [I9 [x0,x1,x2,x3,x4,x5,x6]] #[O Y x0,O Y x1,O Y x2,O Y x3,O Y x4,O Y x5,O Y x6] D (by simp[I9]) (by simp[bB]) 1 D).rd (by omega);simpa using this
   refine cC cM (fun _=>hbn) ?_;refine PT ?_;replace hRn:=hRn.up (hbn.mono (bU hB hb.size));replace hres:=bV hres hbn (bT hres);replace gU:=bV gU hbn (bT gU);replace hown:=jK hown hbn (bM _);replace hb:=eI hb hbn;clear hbn;generalize(v5.alloc (aI #[O Y x0,O Y x1,O Y x2,O Y x3,O Y x4,O Y x5,O Y x6] 239))=v6 at*;refine Ord.X ?_;refine iY (base:=g6+1) (n:=k) uK Hi1.out D (by omega) hown D hrd D (OJ _) (k:=k+1) D (TH _ _) (by unfold bB;omega) (by omega) (by have:=bT gU;omega) ?_;intro A7 c7 v7 uW hgr zE;have Ke: ∀j,(Value.slice A2 k c2).ownBlock=aE j→g6<j:=fun j hj=>by have:=(eU hown hj).1;omega
   have tN:=(hgr.block _ (bT gU) (fun e=>by have:=Ke _ e.symm;omega)).trans gU;have gQ:=(hgr.block _ (bT hres) (fun e=>by have:=Ke _ e.symm;omega)).trans hres;have hb7:=Below.grown hb hgr hb.size (fun j hj=>by have:=Ke j hj;omega);have hbB:aV B v6 v7:=Below.grown (bP B v6) hgr (bU hB hb.size) (fun j hj=>by have:=Ke j hj;omega);replace hRn:=hRn.up hbB;clear hgr zE hown gU hres hb hbB hrd Ke;go_wp2_with fail;refine cC cM (fun h=>by cases h) ?_;refine PT ?_;refine Ord.K ?_;have s1:v7.cell? ⟨g6,1,J⟩=aE (aL A2 k c2):=bL tN D;have s2:v7.frozen? ⟨g6,1,J⟩=aD:=bZ (i:=1) tN;refine Ord.X ?_;go_wp2;have Cs:=cN (i:=1) tN (aL A7 (k+1) c7);have haw8:Aw (fun j=>j=g6) v7 (v7.setCell ⟨g6,1,J⟩ (aL A7 (k+1) c7)):=(cY _ _).set (p:=⟨g6,1,J⟩) _ D;have nC:=haw8.keep gQ (by omega);have Bu:=iZ uW haw8 (fun j hj hu=>by have:=(eU uW hj).1;omega);have hb8:=Sr hb7 haw8 (fun j hj=>by omega) hb7.size;have hR8:Rd (v7.setCell ⟨g6,1,J⟩ (aL A7 (k+1) c7)) B 1 (oH Ar cr 12 1) (12*m) (cr-12) (bv (R.drop 12)):=hRn.up (Sr (bP B v7) haw8 (fun j hj=>by omega) (bU hB hb7.size));refine cC cM (fun h=>by cases h) ?_;refine PT ?_;refine cV ?_;clear s1 s2 gQ tN uW hb7 haw8 hRn;generalize(v7.setCell ⟨g6,1,J⟩ (aL A7 (k+1) c7))=v8 at*;go_wp2;go_roundw;case rel=>exact⟨k+1,m,pre++ [[x0,x1,x2,x3,x4,x5,x6]],R.drop 12,oH Ar cr 12 1,A7,cr-12,c7,D,by omega,Hpl2.out,hR8,Cs,nC,Bu,hb8,Hstep.out,Hpre2.out⟩
   case measure=>simp[WI]
end
end Go.Proofs.YtfoabhdppkjmbaaGreat
