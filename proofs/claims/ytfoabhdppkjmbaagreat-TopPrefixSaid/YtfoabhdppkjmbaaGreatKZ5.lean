import Derived.Test.YtfoabhdppkjmbaaGreatKZ4
import Derived.Laws.EntriesVeiled
import Derived.Deep.OwnRows
import Derived.Laws.CopyOwn
import Derived.Laws.Tables
import Derived.Laws.Rows
set_option linter.unusedSimpArgs false
set_option linter.unusedVariables false
set_option maxHeartbeats 4000000
set_option maxRecDepth 10000
namespace Go.Proofs.YtfoabhdppkjmbaaGreat
open Bool renaming false→aD,true→aF
open Go renaming Addr→aW,Calls→aU,Ending→aX,Oper→bA,Program→aZ,TypeId→aY,Value→aT,World→aS,maxLen→bB
open Go.Ending renaming returned→aJ
open Go.IntKind renaming i64→Y
open Go.Obj renaming cells→aI
open Go.Proofs.Tryz renaming prog→bH
open Go.RowKit renaming Below→aV,intOf→bE
open Go.Value renaming agg→aM,bool→aG,int→O,pointer→aK,slice→aL,tuple→aN
open Option renaming none→J,some→aE
open Go.Proofs.Tryz
namespace NumLaw
end NumLaw
section
open Go.RowKit NumLaw
abbrev eZ:=@of_decide_eq_true
structure eK where
 size:Int
 sg:Bool
 lo:Int
 hi:Int
def fv(f:eK):aT:=aM #[O Y f.size,aG f.sg,O Y f.lo,O Y f.hi]
def nM(n:Int):Bool:=decide (1≤n∧n≤8)
def nR(n:Int)(sg:Bool):eK:=
 if nM n=aF then⟨n,sg,if sg then-(128*256 ^(n.toNat-1)) else 0,if sg then 128*256 ^(n.toNat-1)-1 else if n=8 then 9223372036854775807 else 256 ^ n.toNat-1⟩ else⟨0,aD,0,0⟩
def Sz(f:eK)(n:Int):Bool:=decide (f.lo≤n∧n≤f.hi)
def rS(f:eK):Bool:=nM f.size && decide (f.lo≤f.hi) && Sz (nR f.size f.sg) f.lo && Sz (nR f.size f.sg) f.hi
theorem xK(n:Int)(w:aS):aU bH 269 #[O Y n] w fun e w'=>e=aJ (aG (nM n))∧w=w':=by
 unfold nM;rcases(by omega:n<1∨(1≤n∧n≤8)∨(1≤n∧8<n)) with h|⟨h1,h2⟩|⟨h1,h2⟩;all_goals go_enter func269,ntmps269;go_wp2;go_ret;refine⟨?_,D⟩;simp;try omega
theorem C9{n:Int}(h:nM n=aF):n=1∨n=2∨n=3∨n=4∨n=5∨n=6∨n=7∨n=8:=by
 have:=eZ h;omega
theorem oS(n:Int)(sg:Bool)(w:aS):aU bH 224 #[O Y n,aG sg] w fun e w'=>e=aJ (fv (nR n sg))∧aV w.heap.size w w':=by
 have hb1: ∀o1,aV w.heap.size w (w.alloc o1):=fun o1=>(bP _ _).alloc (bM _) _;have hb2: ∀o1 o2,aV w.heap.size w ((w.alloc o1).alloc o2):=fun o1 o2=>(hb1 o1).alloc (hb1 o1).size _;have Hb1:=bK hb1;have Hb2:=bK hb2;clear hb1 hb2
 cases hf:nM n with
 |false=>
  have Br:=fun w=>xK n w;rw[hf] at Br;rw[show nR n sg=⟨0,aD,0,0⟩ by unfold nR;rw[hf];rfl];clear hf;go_enter func224,ntmps224;go_wp2_with fail;go_fit(Br _);rintro e w1 ⟨rfl,rfl⟩;go_wp2;refine bR (v:=aM #[O Y 0,aG aD,O Y 0,O Y 0]) (by simp[results,go_sem]) D ⟨D,?_⟩;exact Hb1.out _
 |true=>
  rcases C9 hf with rfl|rfl|rfl|rfl|rfl|rfl|rfl|rfl;all_goals clear hf;cases sg
  all_goals go_enter func224,ntmps224;go_wp2_with fail;go_fit(xK _ _);rintro e w1 ⟨rfl,rfl⟩;simp only[show nM 1=aF from D,show nM 2=aF from D,show nM 3=aF from D,show nM 4=aF from D,show nM 5=aF from D,show nM 6=aF from D,show nM 7=aF from D,show nM 8=aF from D];go_wp2
  all_goals refine bR (v:=fv (nR _ _)) (by simp[results,go_sem,fv,nR,nM]<;>first|rfl|decide) rfl ⟨rfl,?_⟩;exact Hb2.out _ _
theorem Dn(f:eK)(n:Int)(w:aS):aU bH 222 #[fv f,O Y n] w fun e w'=>e=aJ (aG (Sz f n))∧aV w.heap.size w w':=by
 obtain⟨size,sg,lo,hi⟩:=f;have hb:aV w.heap.size w (w.alloc (aI #[O Y size,aG sg,O Y lo,O Y hi] 408)):=(bP _ _).alloc (bM _) _;unfold Sz fv;rcases(by omega:n<lo∨(lo≤n∧n≤hi)∨(lo≤n∧hi<n)) with h|⟨h1,h2⟩|⟨h1,h2⟩;all_goals go_enter func222,ntmps222;go_wp2;go_ret;refine⟨?_,hb⟩;simp;try omega
abbrev dD:=@List.mem_of_getElem?
abbrev iP:=@decide_eq_true_eq
abbrev lJ:=@List.all_append
abbrev oZ:=@List.getElem_mem
abbrev uM:=@List.all_eq_false
theorem Rp(f:eK)(w:aS):aU bH 265 #[fv f] w fun e w'=>e=aJ (aG (rS f))∧aV w.heap.size w w':=by
 have W8:=fun w=>oS f.size f.sg w;have Br:=fun w=>xK f.size w;have hlo:=fun w=>Dn (nR f.size f.sg) f.lo w;have Pg:=fun w=>Dn (nR f.size f.sg) f.hi w;obtain⟨b1,hb1⟩: ∃b1,b1=nM f.size:=⟨_,D⟩;obtain⟨b3,hb3⟩: ∃b3,b3=Sz (nR f.size f.sg) f.lo:=⟨_,D⟩;obtain⟨b4,hb4⟩: ∃b4,b4=Sz (nR f.size f.sg) f.hi:=⟨_,D⟩;obtain⟨b2,hb2⟩: ∃b2,b2=decide (f.lo≤f.hi):=⟨_,D⟩;unfold rS;rw[←hb1,←hb2,←hb3,←hb4];rw[←hb1] at Br;rw[←hb3] at hlo;rw[←hb4] at Pg;have HB2:=bK hb2;clear hb1 hb2 hb3 hb4;obtain⟨a0,a1,a2,a3,ha⟩: ∃a0 a1 a2 a3,nR f.size f.sg=⟨a0,a1,a2,a3⟩:=⟨_,_,_,_,D⟩;rw[ha] at W8 hlo Pg;clear ha;obtain⟨size,sg,lo,hi⟩:=f;have hbx:aV w.heap.size w (w.alloc (aI #[O Y size,aG sg,O Y lo,O Y hi] 408)):=(bP _ _).alloc (bM _) _;have hx:=bS w (aI #[O Y size,aG sg,O Y lo,O Y hi] 408);have WS:=bT hx;unfold fv at*;simp only at W8 Br hlo Pg;have Hany:=bK W8;have Hfit:=bK Br;have Hlo:=bK hlo;have Hhi:=bK Pg;clear W8 Br hlo Pg;go_enter func265,ntmps265;go_wp2_with fail;go_fit(Hany.out _);rintro e w1 ⟨rfl,hb1⟩;have hx1:=bV hx hb1 WS;have hb1':=eI hbx hb1;have hy:=bS w1 (aI #[O Y a0,aG a1,O Y a2,O Y a3] 408);have hx2:=(heap_alloc_old w1 (aI #[O Y a0,aG a1,O Y a2,O Y a3] 408) (h:=bT hx1)).trans hx1;have hb2:=hb1'.alloc hb1'.size (aI #[O Y a0,aG a1,O Y a2,O Y a3] 408);clear hx WS hb1 hx1 hb1' hbx;have c0:=bL (i:=0) (v:=O Y size) hx2 D;have d0:=bL (i:=0) (v:=O Y a0) hy D;have d1:=bL (i:=1) (v:=aG a1) hy D;have d2:=bL (i:=2) (v:=O Y a2) hy D;have d3:=bL (i:=3) (v:=O Y a3) hy D;have c2:=bL (i:=2) (v:=O Y lo) hx2 D;have c3:=bL (i:=3) (v:=O Y hi) hx2 D;go_wp2_with fail;generalize(w1.alloc (aI #[O Y a0,aG a1,O Y a2,O Y a3] 408))=w2 at*;go_fit(Hfit.out _);rintro e w3 ⟨rfl,rfl⟩
 cases b1 with
 |false=>
  go_wp2;go_ret;exact⟨D,hb2⟩
 |true=>
  cases b2 with
  |true=>
   have hlh:lo≤hi:=eZ HB2.out.symm;go_wp2_with fail;go_fit(Hlo.out _);rintro e w4 ⟨rfl,hb4⟩;have WT:=bV hy hb4 (bT hy);have hx4:=bV hx2 hb4 (bT hx2);have hb4':=eI hb2 hb4;clear d0 d1 d2 d3 c0 c2 c3 hy hx2;have d0:=bL (i:=0) (v:=O Y a0) WT D;have d1:=bL (i:=1) (v:=aG a1) WT D;have d2:=bL (i:=2) (v:=O Y a2) WT D;have d3:=bL (i:=3) (v:=O Y a3) WT D;have c3:=bL (i:=3) (v:=O Y hi) hx4 D
   cases b3 with
   |false=>
    go_wp2;go_ret;exact⟨D,hb4'⟩
   |true=>
    go_wp2_with fail;go_fit(Hhi.out _);rintro e w5 ⟨rfl,hb5⟩;go_wp2;go_ret;exact⟨by simp,eI hb4' hb5⟩
  |false=>
   have hlh: ¬lo≤hi:=of_decide_eq_false HB2.out.symm;go_wp2;go_ret;exact⟨D,hb2⟩
theorem mN(n hi:Int)(w:aS):aU bH 430 #[O Y n,O Y hi] w fun e w'=>e=aJ (fv (if nM n=aF then⟨n,aD,0,hi⟩ else⟨0,aD,0,0⟩))∧aV w.heap.size w w':=by
 have hb: ∀o1,aV w.heap.size w (w.alloc o1):=fun o1=>(bP _ _).alloc (bM _) _;have Hb:=bK hb;have Br:=fun w=>xK n w;clear hb;cases hf:nM n
 all_goals rw[hf] at Br;clear hf;go_enter func430,ntmps430;go_wp2_with fail;go_fit(Br _);rintro e w1 ⟨rfl,rfl⟩;go_wp2
 ·refine bR (v:=aM #[O Y 0,aG aD,O Y 0,O Y 0]) (by simp[results,go_sem]) D ⟨D,Hb.out _⟩
 ·refine bR (v:=aM #[O Y n,aG aD,O Y 0,O Y hi]) (by simp[results,go_sem]) D ⟨D,Hb.out _⟩
theorem r9(n lo hi:Int)(w:aS):aU bH 429 #[O Y n,O Y lo,O Y hi] w fun e w'=>e=aJ (fv (if nM n=aF then⟨n,aF,lo,hi⟩ else⟨0,aD,0,0⟩))∧aV w.heap.size w w':=by
 have hb: ∀o1,aV w.heap.size w (w.alloc o1):=fun o1=>(bP _ _).alloc (bM _) _;have Hb:=bK hb;have Br:=fun w=>xK n w;clear hb;cases hf:nM n
 all_goals rw[hf] at Br;clear hf;go_enter func429,ntmps429;go_wp2_with fail;go_fit(Br _);rintro e w1 ⟨rfl,rfl⟩;go_wp2
 ·refine bR (v:=aM #[O Y 0,aG aD,O Y 0,O Y 0]) (by simp[results,go_sem]) D ⟨D,Hb.out _⟩
 ·refine bR (v:=aM #[O Y n,aG aF,O Y lo,O Y hi]) (by simp[results,go_sem]) D ⟨D,Hb.out _⟩
def FieldAt(w:aS)(g off:Nat)(f:eK):Prop:=
 w.cell? ⟨g,off,J⟩=aE (O Y f.size)∧w.cell? ⟨g,off+1,J⟩=aE (aG f.sg)∧w.cell? ⟨g,off+2,J⟩=aE (O Y f.lo)∧w.cell? ⟨g,off+3,J⟩=aE (O Y f.hi)∧
  (-9223372036854775808≤f.size∧f.size≤9223372036854775807)∧(-9223372036854775808≤f.lo∧f.lo≤9223372036854775807)∧(-9223372036854775808≤f.hi∧f.hi≤9223372036854775807)
def RdF(w:aS)(B:Nat)(A:Option aW)(n c:Nat)(l:List eK):Prop:=
 l.length=n∧n≤c∧c≤bB∧(0<n→∃g off,A=aE ⟨g,off,J⟩∧g<B∧∀k f,l[k]?=aE f→FieldAt w g (off+k*4) f)
theorem FieldAt.up{w w':aS}{B g off:Nat}{f:eK}(h:FieldAt w g off f)(ha:g<B)(hb:aV B w w'):FieldAt w' g off f:=by
 have hc: ∀j,w'.cell? ⟨g,j,J⟩=w.cell? ⟨g,j,J⟩:=fun j=>hb.cell ha;obtain⟨h1,h2,h3,h4,h5⟩:=h;exact⟨(hc _).trans h1,(hc _).trans h2,(hc _).trans h3,(hc _).trans h4,h5⟩
theorem RdF.up{w w':aS}{B n c:Nat}{A:Option aW}{l:List eK}(h:RdF w B A n c l)(hb:aV B w w'):RdF w' B A n c l:=by
 obtain⟨h1,h2,h3,h4⟩:=h;refine⟨h1,h2,h3,fun hn=> ?_⟩;obtain⟨g,off,e,fF,ho⟩:=h4 hn;exact⟨g,off,e,fF,fun k o hk=>(ho k o hk).up fF hb⟩
theorem RdF.at_{w:aS}{B n c:Nat}{A:Option aW}{l:List eK}(h:RdF w B A n c l){k:Nat}(hk:k<n): ∃g off f,A=aE ⟨g,off,J⟩∧g<B∧l[k]?=aE f∧FieldAt w g (off+k*4) f:=by
 obtain⟨h1,h2,h3,h4⟩:=h;obtain⟨g,off,e,fF,ho⟩:=h4 (by omega);exact⟨g,off,l[k],e,fF,cF (by omega),ho k _ (cF (by omega))⟩
def mX(l:List eK):Bool:=l.all rS
def pA(l:List eK):Nat:=(l.map fun f=>f.size.toNat).foldl (· + ·) 0
def wA(l:List eK):Nat:=if mX l=aF then pA l else 0
theorem Md(l:List eK)(f:eK):pA (l++ [f])=pA l+f.size.toNat:=by simp[pA]
theorem xA{f:eK}(h:rS f=aF):1≤f.size∧f.size≤8:=by
 unfold rS nM at h;simp only[dP,iP] at h;exact h.1.1.1
theorem Fq{l:List eK}(h:mX l=aF)(k:Nat):pA (l.take k)≤8*k:=by
 induction k with
 |zero=>simp[pA]
 |succ k ih=>
  rcases iD k l.length with hk|hk
  ·rw[fD (cF hk),Md];have:=xA (List.all_eq_true.1 h _ (oZ hk));omega
  ·rw[List.take_of_length_le (by omega)] at ih ⊢;omega
attribute [local go_sem] Addr.add_mid
theorem vS(A:Option aW)(n c B:Nat)(l:List eK)(w:aS)(h:RdF w B A n c l)(hB:B≤w.heap.size):
  aU bH 221 #[aL A n c] w fun e w'=>e=aJ (aG (mX l))∧aV w.heap.size w w':=by
 have hle:=h.2.1;have hm:=h.2.2.1;have Hl:=bK h.1;unfold bB at hm;go_enter func221,ntmps221;go_wp2_with fail;go_loopw [7] (fun i wr=> ∃(k:Nat),k≤n∧i=O Y k∧aV w.heap.size w wr∧Hid (mX (l.take k)=aF)) (fun i _=>n-(bE i).toNat);case atStart=>exact⟨0,by omega,D,bP _ _,bK D⟩
 case round=>
  obtain⟨k,hk,rfl,hb,hall⟩:=hrel;by_cases fF:k<n
  ·obtain⟨g,off,f,rfl,hg,hx,h1,h2,h3,h4,_⟩:=(h.up (hb.mono hB)).at_ fF;have Hs:Hid (mX (l.take (k+1))=rS f):=bK (by have h0:=hall.out;unfold mX at h0 ⊢;rw[fD hx,lJ,h0];simp)
   have Hm:Hid (rS f=aD→mX l=aD):=bK (fun hb=>by
    unfold mX;rw[uM]
    exact⟨f,dD hx,by rw[hb];simp⟩)
   have hr:=fun w=>Rp f w;unfold fv at hr;obtain⟨size,sg,lo,hi⟩:=f;simp only at h1 h2 h3 h4 hr;have Hr:=bK hr;clear hr hx;have hb2:=hb.alloc hb.size (aI #[O Y size,aG sg,O Y lo,O Y hi] 408);go_wp2_with fail;go_fit(Hr.out _);rintro e w2 ⟨rfl,hb3⟩;have hb4:=eI hb2 hb3
   cases hb:rS ⟨size,sg,lo,hi⟩ with
   |false=>
    have Hm2:=bK (Hm.out hb);clear Hs Hm hb;go_wp2;go_ret;exact⟨by rw[Hm2.out];rfl,hb4⟩
   |true=>
    rw[hb] at Hs;clear hb Hm;go_wp2;go_roundw;case rel=>exact⟨k+1,by omega,by go_num,hb4,Hs⟩
    case measure=>simp[bE];omega
  ·obtain rfl:k=n:=by omega
   have ht:l.take k=l:=List.take_of_length_le (by rw[Hl.out];omega);rw[ht] at hall;go_wp2;go_ret;exact⟨by rw[hall.out];rfl,hb⟩
end
section
open Go.RowKit NumLaw
attribute [local go_sem] Addr.add_mid
abbrev qP:=@Int.toNat_natCast
theorem Fa{l:List eK}{k:Nat}{f:eK}(hx:l[k]?=aE f):pA (l.take (k+1))=pA (l.take k)+f.size.toNat:=by rw[fD hx,Md]
theorem Gs(A:Option aW)(n c B:Nat)(l:List eK)(w:aS)(h:RdF w B A n c l)(hB:B≤w.heap.size)(hn:n≤100000):
  aU bH 286 #[aL A n c] w fun e w'=>e=aJ (O Y (wA l:Int))∧aV w.heap.size w w':=by
 have hle:=h.2.1;have Hl:=bK h.1;have mH:=vS A n c B l w h hB
 cases hr:mX l with
 |false=>
  rw[hr] at mH;rw[show wA l=0 by unfold wA;rw[hr];rfl];clear hr;go_enter func286,ntmps286;go_wp2_with fail;go_fit mH;rintro e w1 ⟨rfl,hb1⟩;go_wp2;go_ret;exact⟨D,hb1⟩
 |true=>
  have Hr:=bK hr;rw[hr] at mH;obtain⟨tot,dh⟩: ∃tot,tot=wA l:=⟨_,D⟩;rw[←dh];have Ht:Hid (tot=pA l):=bK (by rw[dh];unfold wA;rw[hr];rfl);clear hr dh;go_enter func286,ntmps286;go_wp2_with fail;go_fit mH;rintro e w1 ⟨rfl,hb1⟩;go_wp2_with fail;go_loopw [3,11] (fun s i wr=> ∃(k:Nat),k≤n∧i=O Y k∧s=O Y (pA (l.take k):Int)∧aV w.heap.size w wr) (fun _ i _=>n-(bE i).toNat);case atStart=>exact⟨0,by omega,D,D,hb1⟩
  case round=>
   clear hb1 w1;obtain⟨k,hk,rfl,rfl,hb⟩:=hrel;by_cases fF:k<n
   ·obtain⟨g,off,f,rfl,hg,hx,h1,h2,h3,h4,_⟩:=(h.up (hb.mono hB)).at_ fF;have Br:=xA (List.all_eq_true.1 Hr.out _ (dD hx));have hs:=Fa hx;have Lj:=Fq Hr.out k;obtain⟨size,sg,lo,hi⟩:=f;simp only at h1 h2 h3 h4 Br hs;obtain⟨sz,rfl⟩: ∃sz:Nat,size=sz:=⟨size.toNat,by omega⟩;rw[qP] at hs;have Hs:=bK hs;clear hs hx;have hb2:=hb.alloc hb.size (aI #[O Y sz,aG sg,O Y lo,O Y hi] 408);generalize pA (l.take k)=s0 at*;go_wp2;go_roundw;case rel=>exact⟨k+1,by omega,by go_num,Ei (by rw[Hs.out];omega),hb2⟩
    case measure=>simp[bE];omega
   ·obtain rfl:k=n:=by omega
    have ht:l.take k=l:=List.take_of_length_le (by rw[Hl.out];omega);rw[ht,←Ht.out];go_wp2;go_ret;exact⟨D,hb⟩
abbrev fA:=@IntKind.wrap_i64
def JI(sg:Bool):aT:=if sg=aF then aM #[.func (.func 266) #[] #[],.func (.func 267) #[] #[]] else aM #[.func (.func 310) #[] #[],.func (.func 311) #[] #[]]
theorem Sy(w:aS):aU bH 268 #[] w fun e w'=>e=aJ (JI aD)∧aV w.heap.size w w':=by
 have hb: ∀o1,aV w.heap.size w (w.alloc o1):=fun o1=>(bP _ _).alloc (bM _) _;have Hb:=bK hb;clear hb;go_enter func268,ntmps268;go_wp2;refine bR (v:=JI aD) (by simp[results,go_sem,JI]) D ⟨D,Hb.out _⟩
theorem Rq(f:eK)(w:aS):aU bH 223 #[fv f] w fun e w'=>e=aJ (JI f.sg)∧aV w.heap.size w w':=by
 obtain⟨size,sg,lo,hi⟩:=f;have hb: ∀o1 o2,aV w.heap.size w ((w.alloc o1).alloc o2):=fun o1 o2=>((bP _ _).alloc (bM _) _).alloc (by simp) _;have Hb:=bK hb;clear hb;unfold fv
 cases sg with
 |true=>
  go_enter func223,ntmps223;go_wp2;refine bR (v:=JI aF) (by simp[results,go_sem,JI]) D ⟨D,Hb.out _ _⟩
 |false=>
  go_enter func223,ntmps223;go_wp2_with fail;go_fit(Sy _);rintro e w1 ⟨rfl,hb1⟩;rw[show JI aD=aM #[.func (.func 310) #[] #[],.func (.func 311) #[] #[]] from D];have hres:=bV (Ek w (aI #[O Y size,aG aD,O Y lo,O Y hi] 408) (aI #[.nilFunc,.nilFunc] 413)) hb1 (by simp);have hbw:=eI (Hb.out _ _) hb1;have c0:=bL (i:=0) (v:= .nilFunc) hres D;have f0:=bZ (i:=0) hres;have hr1:=cN (i:=0) hres (.func (.func 310) #[] #[]);have c1:=bL (i:=1) (v:= .nilFunc) hr1 D;have f1:=bZ (i:=1) hr1;have hr2:=cN (i:=1) hr1 (.func (.func 311) #[] #[]);have e0:=bL (i:=0) (v:= .func (.func 310) #[] #[]) hr2 D;have e1:=bL (i:=1) (v:= .func (.func 311) #[] #[]) hr2 D;go_wp2;refine bR (v:=aM #[.func (.func 310) #[] #[],.func (.func 311) #[] #[]]) (by simp[results,go_sem,e0,e1]) D ⟨D,?_⟩;exact(hbw.setCell (p:=⟨w.heap.size+1,0,J⟩) (by show w.heap.size≤w.heap.size+1;omega) _).setCell (p:=⟨w.heap.size+1,1,J⟩) (by show w.heap.size≤w.heap.size+1;omega) _
theorem O2(g:Nat)(v:aT)(l:List UInt8)(bad:Bool)(n x:Int)(w:aS)(h:Wtr w g v l bad)(hl:l.length≤1000000):
  aU bH 310 #[aK (aE ⟨g,0,J⟩),O Y n,O Y x] w (RetW w g v (iu bad (fU n (un x)) l (bytesN n.toNat (un x))) (bad|| !fU n (un x))):=by
 have hc:=bq g v l bad n (un x) w h (VV x) hl;have e:=X2 x;obtain⟨u,hu⟩: ∃u,u=un x:=⟨_,D⟩;rw[←hu] at hc e ⊢;clear hu;go_enter func310,ntmps310;go_wp2_with fail;go_fit hc;rintro x w' hret;obtain rfl:=hret.1;go_wp2
 ((try simp only[Exit.inBlock,Exit.then]);refine dC (cT D _ _ _) D ?_)
 exact hret
def Od(u:Nat):Int:=if u<9223372036854775808 then u else(u:Int)-18446744073709551616
theorem Zk(u:Nat)(h:u<18446744073709551616):IntKind.i64.wrap (u:Int)=Od u:=by
 rw[fA];unfold Od;split<;>omega
theorem Np(lo g:Nat)(l:List UInt8)(bad:Bool)(n:Int)(w:aS)(h:Rdr lo w g l bad):
  aU bH 311 #[aK (aE ⟨g,0,J⟩),O Y n] w (bm lo w g (O Y (Od (num (Dk (nU n) l bad)))) (Qa (nU n) l bad) (Gd (nU n) l bad)):=by
 have hc:=Cu lo g l bad n w h;have e:=Zk _ (YJ (nU n) l bad (by unfold nU;split<;>omega));generalize num (Dk (nU n) l bad)=u at*;generalize Od u=s at*;go_enter func311,ntmps311;go_wp2_with fail;go_fit hc;rintro x w1 ⟨rfl,hr,hg⟩;go_wp2;go_ret;exact⟨D,hr,hg⟩
abbrev cO:=@underlying2
abbrev dO:=@List.getElem?_toArray
abbrev dX:=@underlying408
abbrev jJ:=@List.getElem?_cons_zero
abbrev jY:=@List.getElem?_zip_eq_some
abbrev lI:=@List.filterMap_cons
abbrev lV:=@List.filterMap_nil
abbrev oM:=@List.flatMap_append
def tI(l:List eK)(vs:List Int):Bool:=(l.zip vs).all fun p=>Sz p.1 p.2
def Wc(l:List eK)(vs:List Int):List UInt8:=(l.zip vs).flatMap fun p=>bytesN p.1.size.toNat (un p.2)
def My(l:List eK)(vs:List Int):Nat:=if mX l=aF∧vs.length=l.length then if tI l vs=aF then 0 else 5 else 1
def Mq(l:List eK)(vs:List Int):List UInt8:=if My l vs=0 then Wc l vs else []
def Yq(w:aS)(l:List UInt8)(err:Nat)(e:aX)(w':aS):Prop:=
 ∃A n c,e=aJ (aN #[aL A n c,O Y (err:Int)])∧w'.ownsRow w.heap.size 5 1 (aL A n c) n (bv l)∧aV w.heap.size w w'
theorem Cj{l:List eK}{vs:List Int}{k:Nat}{f:eK}{x:Int}(h1:l[k]?=aE f)(h2:vs[k]?=aE x):(l.zip vs).take (k+1)=(l.zip vs).take k++ [(f,x)]:=
 fD (by rw[jY];exact⟨h1,h2⟩)
theorem Xo{f:eK}{x:Int}(hr:rS f=aF)(hx:Sz f x=aF):1≤f.size∧f.size≤8∧(f.sg=aF→fI f.size x=aF)∧(f.sg=aD→fU f.size (un x)=aF∧0≤x):=by
 obtain⟨size,sg,lo,hi⟩:=f;have hs:=xA hr;unfold rS at hr;simp only[dP,iP] at hr hs;obtain⟨⟨⟨h1,h2⟩,h3⟩,h4⟩:=hr;have h3:=eZ h3;have h4:=eZ h4;have hx:=eZ hx;unfold nR at h3 h4;rw[bY h1] at h3 h4;simp only at h3 h4 hx hs;refine⟨hs.1,hs.2,fun hg=> ?_,fun hg=> ?_⟩
 ·simp only at hg;subst hg;simp only[qK] at h3 h4;show fI size x=aF;unfold fI;exact dU ⟨hs.1,hs.2,by omega,by omega⟩
 ·simp only at hg;subst hg;simp only[iG,sD] at h3 h4;have hx0:0≤x:=by omega
  have Yz:un x=x.toNat∨True:= .inr cM;refine⟨?_,hx0⟩;unfold fU un;rcases C9 h1 with rfl|rfl|rfl|rfl|rfl|rfl|rfl|rfl;all_goals simp at h4;simp;omega
theorem Mu{w w':aS}{g:Nat}{v:aT}{l:List UInt8}{bad:Bool}(h:Wtr w g v l bad)(ha:Aw (Sj g v) w w'):aV g w w':=
 ⟨ha.os,ha.tape,ha.output,ha.size,fun k hk=>ha.block k (Nat.lt_trans hk h.lt) (fun hf=>by have:=(h.foot hf).1;omega)⟩
theorem Pd(a b:aT)(w:aS):(Instr.field 413 (aM #[a,b]) 0).run bH w= .ok a w∧(Instr.field 413 (aM #[a,b]) 1).run bH w= .ok b w:=by
 constructor
 ·simp[Instr.field,eB,dE underlying413,asAgg,part,isAgg,dE underlying410]
 ·simp[Instr.field,eB,dE underlying413,asAgg,part,isAgg,dE underlying411]
theorem IF(A:Option aW)(n c B:Nat)(l:List eK)(A':Option aW)(c' B':Nat)(vs:List Int)(w:aS)(h:RdF w B A n c l)(hB:B≤w.heap.size)(h':Rd w B' 1 A' n c' (vs.map (Value.int Y)))(G3:B'≤w.heap.size)(hn:n≤100000)(NX: ∀x∈vs,-9223372036854775808≤x∧x≤9223372036854775807)(hr:mX l=aF):
  aU bH 175 #[aL A n c,aL A' n c'] w (Yq w (Mq l vs) (My l vs)):=by
 have hle:=h.2.1;have E8:vs.length=n:=by have:=h'.len;simpa using this
 have Hl:=bK h.1;have Hlv:=bK E8;have Hr:=bK hr;have mH:=vS A n c B l w h hB;rw[hr] at mH;have hE:My l vs=if tI l vs=aF then 0 else 5:=by unfold My;rw[bY ⟨hr,by rw[E8,h.1]⟩]
 have HE:=bK hE;obtain⟨oE,wE⟩: ∃oE,oE=My l vs:=⟨_,D⟩;obtain⟨oP,di⟩: ∃oP,oP=Mq l vs:=⟨_,D⟩;rw[←wE,←di];have HoE:=bK wE;have HoP:=bK di;have Hvb:=bK NX;clear hr E8 hE wE di NX;go_enter func175,ntmps175;go_wp2_with fail;go_fit mH;rintro e w1 ⟨rfl,hb1⟩;go_wp2_with fail;go_fit(BP w1);rintro e w2 ⟨rfl,J4,hb12⟩;have hb2:=eI hb1 hb12;have pk:=hb1.size;generalize w1.heap.size=g at*;clear hb1 hb12 mH;go_wp2_with fail;go_loopw [22] (fun i wr=> ∃(k:Nat) (v:aT) (lw:List UInt8),k≤n∧i=O Y k∧Wtr wr g v lw aD∧aV w.heap.size w wr∧lw.length≤k*8∧Hid (lw=((l.zip vs).take k).flatMap fun p=>bytesN p.1.size.toNat (un p.2))∧Hid (((l.zip vs).take k).all (fun p=>Sz p.1 p.2)=aF)) (fun i _=>n-(bE i).toNat);case atStart=>exact⟨0,aL J 0 0,[],by omega,D,J4,hb2,by simp,bK D,bK D⟩
 case round=>
  clear J4 hb2 w2;obtain⟨k,v,lw,hk,rfl,hw,hb,hlw,hlB,hall⟩:=hrel;by_cases fF:k<n
  ·obtain⟨gf,off,f,rfl,hgf,hx,h1,h2,h3,h4,_⟩:=(h.up (hb.mono hB)).at_ fF;obtain⟨adv,uv,rfl,hu,dj⟩:=h'.one fF;obtain⟨x,Y3,rfl⟩: ∃x,vs[k]?=aE x∧Value.int Y x=uv:=by simpa using hu
   have aHr:adv.block<B':=by obtain⟨ad',e',hb',_⟩:=h'.at_ (by omega);injection e' with e';rw[e'];exact hb'
   have Gu:=List.all_eq_true.1 Hr.out _ (dD hx);have Wz:=Cj hx Y3;have Hfit:=bK (fun Bs=>Xo (x:=x) Gu Bs);have Hs:=bK Wz;have hm:(f,x)∈l.zip vs:=dD (i:=k) (by rw[jY];exact⟨hx,Y3⟩);have Hm:=bK hm;have Hxb:=bK (Hvb.out x (dD Y3));clear hu Y3 hx Wz hm;have Bs:=fun w=>Dn f x w;have J5:=fun w=>Rq f w;obtain⟨size,sg,lo,hi⟩:=f;simp only at h1 h2 h3 h4 J5 Hfit Hs;unfold fv at Bs J5;simp only at Bs J5;have Hin:=bK Bs;have Hof:=bK J5;clear Bs J5;have hb3:=hb.alloc hb.size (aI #[O Y size,aG sg,O Y lo,O Y hi] 408);have gU:=bS wr (aI #[O Y size,aG sg,O Y lo,O Y hi] 408);have hw3:=hw.keep ((cY (fun _=>False) wr).alloc (aI #[O Y size,aG sg,O Y lo,O Y hi] 408)) (fun _ _ h=>h);have yN:g<wr.heap.size:=hw.lt;go_wp2_with fail;clear hb hw h1 h2 h3 h4;replace gU:(wr.alloc (aI #[O Y size,aG sg,O Y lo,O Y hi] 408)).drew.heap[wr.heap.size]?=_:=gU;replace hb3:=hb3.drew;replace hw3:=hw3.keep ((cY (fun _=>False) _).drew) (fun _ _ h=>h);refine cQ (fun w'=>aV w.heap.size w w') aF [27] (by kernel_rfl) (by kernel_rfl) hb3 ?_;generalize(wr.alloc (aI #[O Y size,aG sg,O Y lo,O Y hi] 408)).drew=w3 at*;have hrow:w3.rangeAt wr.heap.size 0 [O Y size,aG sg,O Y lo,O Y hi]:=jT gU 0 (fun j v hv=>by simpa using hv);repeat(first|refine fQ ?_|refine fP ?_)
   refine kS dX D (by kernel_rfl) D hrow (by rfl) (by rfl) ?_;refine PT ?_;repeat(first|refine fQ ?_|refine fP ?_)
   refine cR cO D (fun w' hS=>((show aV _ w w' from hS).cell (p:=adv.add k) (by rw[lL];omega)).trans dj) hb3 D (by rfl) ?_;refine PT ?_;repeat(first|refine fQ ?_|refine fP ?_)
   refine qB ?_;go_wp2_with fail;go_fit(Hin.out _);rintro e w4 ⟨rfl,hb4⟩;have hb4':=eI hb3 hb4;go_wp2_with fail;refine cC hb4' (fun _=>hb4) ?_;refine PT ?_;repeat(first|refine fQ ?_|refine fP ?_)
   refine cV ?_;replace gU:=bV gU hb4 (bT gU);replace hw3:=hw3.keep (eS (U:=fun _=>False) hb4) (fun _ _ h=>h);clear hrow hb3 hb4
   cases Bs:Sz ⟨size,sg,lo,hi⟩ x with
   |false=>
    have UB:tI (l.take 0++l) vs=aD:=by unfold tI;rw[List.take_zero,eF,uM];exact⟨_,Hm.out,by rw[Bs];simp⟩
    rw[List.take_zero,eF] at UB;obtain rfl:oE=5:=by rw[HoE.out,HE.out,bX (by rw[UB];simp)]
    obtain rfl:oP= []:=by rw[HoP.out];unfold Mq;rw[bX (by rw[←HoE.out];simp)]
    clear UB Bs;go_wp2;go_ret2;exact⟨J,0,0,D,dF _ _ _ _,hb4'⟩
   |true=>
    have HIN:=bK Bs;have Hf2:=bK (Hfit.out Bs);have hs1:1≤size:=Hf2.out.1;have hs8:size≤8:=Hf2.out.2.1;clear Bs Hfit;go_wp2_with fail;replace gU:w4.drew.heap[wr.heap.size]?=_:=gU;replace hb4':=hb4'.drew;replace hw3:=hw3.keep ((cY (fun _=>False) _).drew) (fun _ _ h=>h);refine Ord.region_at [0,3,4,5,6,7,8,9,1,2,10] (fun w'=>aV w.heap.size w w') aF [34,39,44] (by kernel_rfl) (by kernel_rfl) D hb4' ?_;simp only[Ord.lst,lI,lV,dO,eV,jJ];generalize w4.drew=w5 at*;have hrow:w5.rangeAt wr.heap.size 0 [O Y size,aG sg,O Y lo,O Y hi]:=jT gU 0 (fun j v hv=>by simpa using hv);have c0:=bL (i:=0) (v:=O Y size) gU D;repeat(first|refine fQ ?_|refine fP ?_)
    refine kS dX D (by kernel_rfl) D hrow (by rfl) (by rfl) ?_;refine PT ?_;repeat(first|refine fQ ?_|refine fP ?_)
    refine eP dB D c0 D (by rfl) (by rfl) ?_;refine PT ?_;repeat(first|refine fQ ?_|refine fP ?_)
    refine cR cO D (fun w' hS=>((show aV _ w w' from hS).cell (p:=adv.add k) (by rw[lL];omega)).trans dj) hb4' D (by rfl) ?_;refine PT ?_;repeat(first|refine fQ ?_|refine fP ?_)
    refine qB ?_;go_wp2_with fail;go_fit(Hof.out _);rintro e w5' ⟨rfl,CT⟩;have hb5':=eI hb4' CT;have G4:=hw3.keep (eS (U:=fun _=>False) CT) (fun _ _ h=>h);clear hw3 hrow c0 gU
    cases sg with
    |true=>
     have hfI:fI size x=aF:=(Hf2.out.2.2.1 D);have HfI:=bK hfI;rw[show JI aF=aM #[.func (.func 266) #[] #[],.func (.func 267) #[] #[]] from D];go_wp2_with fail;refine cC hb5' (fun _=>CT) ?_;refine PT ?_;clear hfI CT hb4';have dk:=fun w=>(Pd (.func (.func 266) #[] #[]) (.func (.func 267) #[] #[]) w).1;repeat(first|refine fQ ?_|refine fP ?_)
     refine qB ?_;go_wp2_with fail;go_fit(bp g v lw aD size x w5' G4 Hxb.out (by omega));rintro e w6 ⟨rfl,v6,pn,ha6,_⟩;have hb6:=hb5'.trans ((Mu G4 ha6).mono pk);rw[HfI.out] at pn;go_wp2_with fail;refine cC hb6 (fun h=>by cases h) ?_;refine PT ?_;refine cV ?_;clear G4 ha6 hb5';go_wp2;go_roundw
     case rel=>
      refine⟨k+1,v6,_,by omega,by go_num,pn,hb6,?_,bK ?_,bK ?_⟩
      ·show(lw++bytesN size.toNat (un x)).length≤_;rw[cZ,oC];omega
      ·show lw++bytesN size.toNat (un x)=_;rw[Hs.out,oM,←hlB.out];simp
      ·rw[Hs.out,lJ,hall.out];simp[HIN.out]
     case measure=>simp[bE];omega
    |false=>
     have hfU:fU size (un x)=aF:=(Hf2.out.2.2.2 D).1;have HfU:=bK hfU;rw[show JI aD=aM #[.func (.func 310) #[] #[],.func (.func 311) #[] #[]] from D];go_wp2_with fail;refine cC hb5' (fun _=>CT) ?_;refine PT ?_;clear hfU CT hb4';have dk:=fun w=>(Pd (.func (.func 310) #[] #[]) (.func (.func 311) #[] #[]) w).1;repeat(first|refine fQ ?_|refine fP ?_)
     refine qB ?_;go_wp2_with fail;go_fit(O2 g v lw aD size x w5' G4 (by omega));rintro e w6 ⟨rfl,v6,pn,ha6,_⟩;have hb6:=hb5'.trans ((Mu G4 ha6).mono pk);rw[HfU.out] at pn;go_wp2_with fail;refine cC hb6 (fun h=>by cases h) ?_;refine PT ?_;refine cV ?_;clear G4 ha6 hb5';go_wp2;go_roundw
     case rel=>
      refine⟨k+1,v6,_,by omega,by go_num,pn,hb6,?_,bK ?_,bK ?_⟩
      ·show(lw++bytesN size.toNat (un x)).length≤_;rw[cZ,oC];omega
      ·show lw++bytesN size.toNat (un x)=_;rw[Hs.out,oM,←hlB.out];simp
      ·rw[Hs.out,lJ,hall.out];simp[HIN.out]
     case measure=>simp[bE];omega
  ·obtain rfl:k=n:=by omega
   have ht:(l.zip vs).take k=l.zip vs:=List.take_of_length_le (by rw[List.length_zip,Hl.out,Hlv.out];omega);rw[ht] at hall hlB;have Y4:tI l vs=aF:=hall.out;obtain rfl:oE=0:=by rw[HoE.out,HE.out,bY Y4]
   obtain rfl:oP=lw:=by rw[HoP.out,hlB.out];unfold Mq;rw[bY HoE.out.symm];rfl
   clear ht;go_wp2_with fail;go_fit(U2 g v oP aD wr hw (by omega));rintro e w5 ⟨A5,c5,n5,rfl,Tf,hb5⟩;go_wp2;go_ret2;exact⟨A5,n5,c5,D,zJ Tf hb.size,eI hb hb5⟩
theorem BS(A:Option aW)(n c B:Nat)(l:List eK)(A':Option aW)(n' c' B':Nat)(vs:List Int)(w:aS)(h:RdF w B A n c l)(hB:B≤w.heap.size)(h':Rd w B' 1 A' n' c' (vs.map (Value.int Y)))(G3:B'≤w.heap.size)(hn:n≤100000)(NX: ∀x∈vs,-9223372036854775808≤x∧x≤9223372036854775807):
  aU bH 175 #[aL A n c,aL A' n' c'] w (Yq w (Mq l vs) (My l vs)):=by
 have E8:vs.length=n':=by have:=h'.len;simpa using this
 have mH:=vS A n c B l w h hB
 cases hr:mX l with
 |false=>
  have e1:My l vs=1:=by unfold My;rw[bX (by rw[hr];simp)]
  rw[show Mq l vs= [] by unfold Mq;rw[e1];rfl,e1];rw[hr] at mH;clear hr e1 E8;go_enter func175,ntmps175;go_wp2_with fail;go_fit mH;rintro e w1 ⟨rfl,hb1⟩;go_wp2;go_ret2;exact⟨J,0,0,D,dF _ _ _ _,hb1⟩
 |true=>
  by_cases WU:n'=n
  ·subst WU;exact IF A n' c B l A' c' B' vs w h hB h' G3 hn NX hr
  ·have e1:My l vs=1:=by unfold My;rw[bX (by rw[E8,h.1];intro hh;exact WU hh.2)]
   rw[show Mq l vs= [] by unfold Mq;rw[e1];rfl,e1];rw[hr] at mH;have aAf: ¬(n':Int)=(n:Int):=by omega
   clear hr e1 E8 WU;go_enter func175,ntmps175;go_wp2_with fail;go_fit mH;rintro e w1 ⟨rfl,hb1⟩;go_wp2;go_ret2;exact⟨J,0,0,D,dF _ _ _ _,hb1⟩
abbrev gZ:=@List.map_append
abbrev jQ:=@List.length_set
abbrev qM:=@underlying47
theorem Z6(l:List Nat): ∀a,l.foldl (· + ·) a=a+l.foldl (· + ·) 0:=by
 induction l with
 |nil=>intro a;simp
 |cons x l ih=>intro a;simp only[gL];rw[ih (a+x),ih (0+x)];omega
theorem zY(f:eK)(l:List eK):pA (f::l)=f.size.toNat+pA l:=by
 simp only[pA,eE,gL];rw[Z6];omega
def vZ(f:eK)(b:List UInt8):Int:=if f.sg=aF then sgn f.size.toNat (num b) else Od (num b)
def oF:List eK→List UInt8→List Int
 | [],_=> []
 |f::l,b=>vZ f (b.take f.size.toNat)::oF l (b.drop f.size.toNat)
theorem wR: ∀(l:List eK) (b:List UInt8),(oF l b).length=l.length
 | [],_=>rfl
 |f::l,b=>by simp[oF,wR l]
theorem Sd: ∀(l:List eK) (b:List UInt8) (k:Nat) (f:eK),l[k]?=aE f→(oF l b)[k]?=aE (vZ f ((b.drop (pA (l.take k))).take f.size.toNat))
 | [],_,_,_,h=>by simp at h
 |f::l,b,0,g,h=>by simp at h;subst h;simp[oF,pA]
 |f::l,b,k+1,g,h=>by have:=Sd l (b.drop f.size.toNat) k g (by simpa using h);simp only[oF,eV,List.take_succ_cons,zY];rw[this,List.drop_drop]
theorem TE{l:List eK}{k:Nat}{f:eK}(h:l[k]?=aE f):pA (l.take k)+f.size.toNat≤pA l:=by
 obtain⟨hk,he⟩:=List.getElem?_eq_some_iff.1 h;have h1:=Fa h
 have h2: ∀(m:List eK) (j:Nat),pA (m.take j)≤pA m:=by
  intro m
  induction m with
  |nil=>intro j;simp
  |cons x m ih=>
   intro j
   cases j with
   |zero=>simp[pA]
   |succ j=>rw[List.take_succ_cons,zY,zY];have:=ih j;omega
 have:=h2 l (k+1);omega
def jM(l:List eK)(b:List UInt8):Nat:=if mX l=aF then if b.length<pA l then 2 else if pA l<b.length then 7 else if tI l (oF l b)=aF then 0 else 5 else 1
def uT(l:List eK)(b:List UInt8):List Int:=if jM l b=0 then oF l b else []
def KP(w:aS)(vs:List Int)(err:Nat)(e:aX)(w':aS):Prop:=
 ∃A n c,e=aJ (aN #[aL A n c,O Y (err:Int)])∧w'.ownsRow w.heap.size 2 1 (aL A n c) n (vs.map (Value.int Y))∧aV w.heap.size w w'
theorem Jz:(Tryz.prog.info? 2).map (fun i=>(i.zero,i.size,i.bytes))=aE (aE (O Y 0),1,8):=by kernel_rfl
theorem F0(z:aT)(n:Nat):madeCells #[z] n=(List.replicate n z).toArray:=by
 apply Array.ext
 ·simp[madeCells]
 ·intro i h1 h2;simp[madeCells,Nat.mod_one]
theorem Au{w:aS}{base g:Nat}{e:aY}{cs:List aT}(h:w.heap[g]?=aE (aI cs.toArray e))(hB:base≤g){n:Nat}(hn:cs.length=n)(hm:n≤bB):w.ownsRow base e 1 (aL (aE ⟨g,0,J⟩) n n) n cs:=
 ⟨by omega,.inr ⟨g,n,cs.toArray,D,hB,h,bM _,hm,by simp[hn],by simp[←hn]⟩⟩
theorem GO{n:Nat}{l:List UInt8}(h1:1≤n)(h8:n≤8)(hl:n≤l.length):Gd (nU n) l aD=aD∧Dk (nU n) l aD=l.take n∧Qa (nU n) l aD=l.drop n:=by
 have hn:nU (n:Int)=n:=by unfold nU;rw[bX (by omega)]
 rw[hn];have hf:Gd (n:Int) l aD=aD:=by unfold Gd;simp;omega
 refine⟨hf,?_,?_⟩
 ·unfold Dk;rw[hf];simp
 ·unfold Qa;rw[hf];simp
theorem AG(A:Option aW)(n c B:Nat)(l:List eK)(A':Option aW)(n' c' B':Nat)(b:List UInt8)(w:aS)(h:RdF w B A n c l)(hB:B≤w.heap.size)(h':Rd w B' 1 A' n' c' (bv b))(G3:B'≤w.heap.size)(hn:n≤100000)(hr:mX l=aF)(hlen:n'=pA l):
  aU bH 237 #[aL A n c,aL A' n' c'] w (KP w (uT l b) (jM l b)):=by
 have hle:=h.2.1;have hlb:=h'.blen;have Hl:=bK h.1;have Hr:=bK hr;have mH:=fun w' h' G3=>vS A n c B l w' h' G3;have Bt:=Gs A n c B l w h hB hn;rw[show wA l=n' by unfold wA;rw[bY hr,hlen]] at Bt;rw[hr] at mH;have hE:jM l b=if tI l (oF l b)=aF then 0 else 5:=by unfold jM;rw[bY hr,bX (by omega),bX (by omega)]
 have HE:=bK hE;obtain⟨oE,wE⟩: ∃oE,oE=jM l b:=⟨_,D⟩;obtain⟨oP,di⟩: ∃oP,oP=uT l b:=⟨_,D⟩;rw[←wE,←di];have HoE:=bK wE;have HoP:=bK di;have Hlen:=bK hlen;have Hlb:=bK hlb;have po:n'≤800000:=by have:=Fq hr l.length;rw[List.take_length,h.1] at this;omega
 have Hright:=bK mH;have CU:=run_make_row' (P:=bH) 47 2 (O Y 0) 8 qM Jz D Y Y n (by omega) (by omega);rw[F0] at CU;obtain⟨z,hz⟩: ∃z,z=List.replicate n (Value.int Y 0):=⟨_,D⟩;rw[←hz] at CU;have dm:z.length=n:=by rw[hz];simp
 have Hzl:=bK dm;clear hr hE wE di hlen hlb mH hz dm;go_enter func237,ntmps237;go_wp2_with fail;go_fit Bt;rintro e w1 ⟨rfl,hb1⟩;go_wp2_with fail;go_fit(Hright.out w1 (h.up (hb1.mono hB)) (bU hB hb1.size));rintro e w2 ⟨rfl,hb12⟩;have hb2:=eI hb1 hb12;clear hb1 hb12 Bt;go_wp2_with fail;go_fit(Jq A' n' c' B' b w2 (h'.up (hb2.mono G3)) (bU G3 hb2.size) (by omega));rintro e w3 ⟨g,rfl,hr3,Cq,hb23⟩;have hb3:=eI hb2 hb23;have hlo:=hb2.size;generalize w2.heap.size=lo at*;clear hb2 hb23;have yN:g<w3.heap.size:=by obtain⟨⟨_,_,_,hrr,_,_⟩,_⟩:=hr3;exact hrr.lt
 have hr4:Rdr lo (w3.alloc (aI z.toArray 2)) g b aD:=hr3.keep (World.grownBy_alloc w3 _ J) (fun _ h=>by cases h);have hb4:=hb3.alloc hb3.size (aI z.toArray 2);have yV:=bS w3 (aI z.toArray 2);clear hr3 hb3;go_wp2_with fail;generalize(w3.alloc (aI z.toArray 2))=w4 at*;generalize w3.heap.size=gm at*;go_loopw [34] (fun i wr=> ∃(k:Nat) (cur:List aT) (lr:List UInt8),k≤n∧i=O Y k∧Rdr lo wr g lr aD∧aV w.heap.size w wr∧wr.heap[gm]?=aE (aI cur.toArray 2)∧Hid (cur.length=n)∧lr.length≤800000∧Hid (cur.take k=((oF l b).take k).map (Value.int Y))∧Hid (lr=b.drop (pA (l.take k)))∧Hid (((l.zip (oF l b)).take k).all (fun p=>Sz p.1 p.2)=aF)) (fun i _=>n-(bE i).toNat);case atStart=>exact⟨0,z,b,by omega,D,hr4,hb4,yV,Hzl,by rw[Hlb.out];exact po,bK (by simp),bK (by simp[pA]),bK D⟩
 case round=>
  clear hr4 hb4 yV w4;obtain⟨k,cur,lr,hk,rfl,hrd,hb,yV,hcl,aHs,hcur,hlr,hall⟩:=hrel;by_cases fF:k<n
  ·obtain⟨gf,off,f,rfl,hgf,hx,h1,h2,h3,h4,_⟩:=(h.up (hb.mono hB)).at_ fF;have Gu:=List.all_eq_true.1 Hr.out _ (dD hx);have NY:=Sd l b k f hx;rw[←hlr.out] at NY;have Kl:=TE hx;have hst:=Fa hx;have Br:=xA Gu;have pq:lr.length=b.length-pA (l.take k):=by rw[hlr.out,iA]
   have hfr:=GO (n:=f.size.toNat) (l:=lr) (by omega) (by omega) (by rw[pq,Hlb.out,Hlen.out];omega);have Wz:=Cj hx NY;have hm:(f,vZ f (lr.take f.size.toNat))∈l.zip (oF l b):=dD (i:=k) (by rw[jY];exact⟨hx,NY⟩);obtain⟨x,hxe⟩: ∃x,x=vZ f (lr.take f.size.toNat):=⟨_,D⟩;have UC:lr.drop f.size.toNat=b.drop (pA (l.take (k+1))):=by rw[hst,hlr.out,List.drop_drop]
   rw[←hxe] at Wz hm NY;have Hvx:=bK NY;have Hs:=bK Wz;have Hm:=bK hm;have Hxe:=bK hxe;have Hfr:=bK hfr;have dn:=bK UC;clear hx Wz hm hxe hfr NY hst Kl pq UC Gu;have Bs:=fun w=>Dn f x w;have J5:=fun w=>Rq f w;obtain⟨size,sg,CV,hi⟩:=f;simp only at h1 h2 h3 h4 J5 Hxe Hs Br;obtain⟨sz,rfl⟩: ∃sz:Nat,size=sz:=⟨size.toNat,by omega⟩;simp only[qP] at Hxe Hfr dn;unfold fv at Bs J5;simp only at Bs J5;have Hin:=bK Bs;have Hof:=bK J5;clear Bs J5;have CW:gm<wr.heap.size:=bT yV;have hb3:=hb.alloc hb.size (aI #[O Y sz,aG sg,O Y CV,O Y hi] 408);have gU:=bS wr (aI #[O Y sz,aG sg,O Y CV,O Y hi] 408);have LX:=(heap_alloc_old wr (aI #[O Y sz,aG sg,O Y CV,O Y hi] 408) (h:=CW)).trans yV;have hrd3:Rdr lo (wr.alloc (aI #[O Y sz,aG sg,O Y CV,O Y hi] 408)) g lr aD:=hrd.keep (World.grownBy_alloc wr _ J) (fun _ h=>by cases h);go_wp2_with fail;clear hb hrd h1 h2 h3 h4 yV;replace gU:(wr.alloc (aI #[O Y sz,aG sg,O Y CV,O Y hi] 408)).drew.heap[wr.heap.size]?=_:=gU;replace LX:(wr.alloc (aI #[O Y sz,aG sg,O Y CV,O Y hi] 408)).drew.heap[gm]?=_:=LX;replace hb3:=hb3.drew;replace hrd3:=hrd3.keep (row:=none) (w':=(wr.alloc (aI #[O Y sz,aG sg,O Y CV,O Y hi] 408)).drew) ⟨D,D,D,bM _,fun _ _ _=>rfl⟩ (fun _ h=>by cases h);refine Ord.region_at [0,1,2,6,7,3,4,5,8,9,10] (fun _=>True) aF [41,46,47] (by kernel_rfl) (by kernel_rfl) D cM ?_;simp only[Ord.lst,lI,lV,dO,eV,jJ];generalize(wr.alloc (aI #[O Y sz,aG sg,O Y CV,O Y hi] 408)).drew=w3 at*;have hrow:w3.rangeAt wr.heap.size 0 [O Y sz,aG sg,O Y CV,O Y hi]:=jT gU 0 (fun j v hv=>by simpa using hv);have c0:=bL (i:=0) (v:=O Y sz) gU D;repeat(first|refine fQ ?_|refine fP ?_)
   refine kS dX D (by kernel_rfl) D hrow (by rfl) (by rfl) ?_;refine PT ?_;repeat(first|refine fQ ?_|refine fP ?_)
   refine eP dB D c0 D (by rfl) (by rfl) ?_;refine PT ?_;repeat(first|refine fQ ?_|refine fP ?_)
   refine qB ?_;go_wp2_with fail;go_fit(Hof.out _);rintro e w4 ⟨rfl,hb34⟩;have hb4:=eI hb3 hb34;have M8:=bV gU hb34 (bT gU);have CX:=bV LX hb34 (bT LX);have pt:=hrd3.keep (qV hb34 J) (fun _ h=>by cases h);clear hrd3 hrow c0 gU LX
   cases sg with
   |true=>
    rw[show JI aF=aM #[.func (.func 266) #[] #[],.func (.func 267) #[] #[]] from D];have dk:=fun w=>(Pd (.func (.func 266) #[] #[]) (.func (.func 267) #[] #[]) w).2
    have Ph:iV (sz:Int) lr aD=x:=by
     rw[Hxe.out];have h0:=Hfr.out;have hnU:nU (sz:Int)=(sz:Int):=by unfold nU;rw[bX (by omega)]
     rw[hnU] at h0;unfold iV vZ;rw[bX (by omega),h0.1,h0.2.1];simp
    have HVAL:=bK Ph;clear Ph;go_wp2_with fail;refine cC cM (fun _=>hb34) ?_;refine PT ?_;repeat(first|refine fQ ?_|refine fP ?_)
    refine qB ?_;go_wp2_with fail;go_fit(ZL lo g lr aD sz w4 pt);rintro e w5 ⟨rfl,hr5,hg5⟩;rw[(Hfr.out).1,(Hfr.out).2.2] at hr5;rw[HVAL.out];have hb5:=hb4.grown hg5 hb4.size (fun k hk=>by injection hk with hk;omega);have Th:=(hg5.block _ (bT M8) (by intro e;injection e with e;omega)).trans M8;have J6:=(hg5.block _ (bT CX) (by intro e;injection e with e;omega)).trans CX;have dp:k<cur.length:=by rw[hcl.out];exact fF
    obtain⟨u,hu⟩: ∃u,cur[k]?=aE u:=⟨_,cF dp⟩;have s1:w5.cell? ⟨gm,k,J⟩=aE u:=bL J6 (by simpa using hu);have s2:=bZ (i:=k) J6;have Df:=cN (i:=k) J6 (O Y x);rw[cE] at Df;have hb6:=hb5.setCell (p:=⟨gm,k,J⟩) (by show w.heap.size≤gm;omega) (O Y x);have hr6:=hr5.keep (tH (rF w5 (aE gm)) k (O Y x)) (fun k' hk=>by injection hk with hk;omega);have E0:=(((cY (fun k=>k=gm) w5).set (p:=⟨gm,k,J⟩) (O Y x) D).keep Th (by omega));clear hr5 hg5 M8 CX Th hb4 hb3 hb34;go_wp2_with fail;refine cC cM (fun h=>by cases h) ?_;refine PT ?_;repeat(first|refine fQ ?_|refine fP ?_)
    refine qB ?_;go_wp2;refine cC cM (fun h=>by cases h) ?_;refine PT ?_;repeat(first|refine fQ ?_|refine fP ?_)
    refine cV ?_;clear s1 s2 hu;generalize(w5.setCell ⟨gm,k,J⟩ (O Y x))=w6 at*;clear J6 hb5;go_wp2_with fail;replace E0:w6.drew.heap[wr.heap.size]?=_:=E0;replace Df:w6.drew.heap[gm]?=_:=Df;replace hb6:=hb6.drew;replace hr6:=hr6.keep (row:=none) (w':=w6.drew) ⟨D,D,D,bM _,fun _ _ _=>rfl⟩ (fun _ h=>by cases h);refine cQ (fun _=>True) aF [49,53] (by kernel_rfl) (by kernel_rfl) cM ?_;generalize w6.drew=w7 at*;have hrow:w7.rangeAt wr.heap.size 0 [O Y sz,aG aF,O Y CV,O Y hi]:=jT E0 0 (fun j v hv=>by simpa using hv);have ck:w7.cell? ⟨gm,k,J⟩=aE (O Y x):=bL Df (by simp[dp]);repeat(first|refine fQ ?_|refine fP ?_)
    refine kS dX D (by kernel_rfl) D hrow (by rfl) (by rfl) ?_;refine PT ?_;repeat(first|refine fQ ?_|refine fP ?_)
    refine eP cO D ck D (by rfl) (by rfl) ?_;refine PT ?_;repeat(first|refine fQ ?_|refine fP ?_)
    refine qB ?_;go_wp2_with fail;go_fit(Hin.out _);rintro e w8 ⟨rfl,hb78⟩;have hb8:=eI hb6 hb78;have CY:=bV Df hb78 (bT Df);have hr8:=hr6.keep (qV hb78 J) (fun _ h=>by cases h);go_wp2_with fail;refine cC cM (fun _=>hb78) ?_;refine PT ?_;repeat(first|refine fQ ?_|refine fP ?_)
    refine cV ?_;clear hrow ck E0 Df hb6 hr6 hb78
    cases Bs:Sz ⟨(sz:Int),aF,CV,hi⟩ x with
    |false=>
     have UB:tI l (oF l b)=aD:=by unfold tI;rw[uM];exact⟨_,Hm.out,by rw[Bs];simp⟩
     obtain rfl:oE=5:=by rw[HoE.out,HE.out,bX (by rw[UB];simp)]
     obtain rfl:oP= []:=by rw[HoP.out];unfold uT;rw[bX (by rw[←HoE.out];simp)]
     clear UB Bs;go_wp2;go_ret2;exact⟨J,0,0,D,dF _ _ _ _,hb8⟩
    |true=>
     have HIN:=bK Bs;clear Bs;go_wp2;go_roundw
     case rel=>
      refine⟨k+1,cur.set k (O Y x),lr.drop sz,by omega,by go_num,hr8,hb8,CY,bK (by rw[jQ];exact hcl.out),by rw[iA];omega,bK ?_,dn,bK ?_⟩
      ·rw[fD (show(cur.set k (O Y x))[k]?=aE (O Y x) by simp[dp]),fD Hvx.out,gZ,List.take_set_of_le (bM k),hcur.out];rfl
      ·rw[Hs.out,lJ,hall.out];simp[HIN.out]
     case measure=>simp[bE];omega
   |false=>
    rw[show JI aD=aM #[.func (.func 310) #[] #[],.func (.func 311) #[] #[]] from D];have dk:=fun w=>(Pd (.func (.func 310) #[] #[]) (.func (.func 311) #[] #[]) w).2;have Ph:Od (num (Dk (nU (sz:Int)) lr aD))=x:=by rw[Hxe.out,(Hfr.out).2.1];rfl
    have HVAL:=bK Ph;clear Ph;go_wp2_with fail;refine cC cM (fun _=>hb34) ?_;refine PT ?_;repeat(first|refine fQ ?_|refine fP ?_)
    refine qB ?_;go_wp2_with fail;go_fit(Np lo g lr aD sz w4 pt);rintro e w5 ⟨rfl,hr5,hg5⟩;rw[(Hfr.out).1,(Hfr.out).2.2] at hr5;rw[HVAL.out];have hb5:=hb4.grown hg5 hb4.size (fun k hk=>by injection hk with hk;omega);have Th:=(hg5.block _ (bT M8) (by intro e;injection e with e;omega)).trans M8;have J6:=(hg5.block _ (bT CX) (by intro e;injection e with e;omega)).trans CX;have dp:k<cur.length:=by rw[hcl.out];exact fF
    obtain⟨u,hu⟩: ∃u,cur[k]?=aE u:=⟨_,cF dp⟩;have s1:w5.cell? ⟨gm,k,J⟩=aE u:=bL J6 (by simpa using hu);have s2:=bZ (i:=k) J6;have Df:=cN (i:=k) J6 (O Y x);rw[cE] at Df;have hb6:=hb5.setCell (p:=⟨gm,k,J⟩) (by show w.heap.size≤gm;omega) (O Y x);have hr6:=hr5.keep (tH (rF w5 (aE gm)) k (O Y x)) (fun k' hk=>by injection hk with hk;omega);have E0:=(((cY (fun k=>k=gm) w5).set (p:=⟨gm,k,J⟩) (O Y x) D).keep Th (by omega));clear hr5 hg5 M8 CX Th hb4 hb3 hb34;go_wp2_with fail;refine cC cM (fun h=>by cases h) ?_;refine PT ?_;repeat(first|refine fQ ?_|refine fP ?_)
    refine qB ?_;go_wp2;refine cC cM (fun h=>by cases h) ?_;refine PT ?_;repeat(first|refine fQ ?_|refine fP ?_)
    refine cV ?_;clear s1 s2 hu;generalize(w5.setCell ⟨gm,k,J⟩ (O Y x))=w6 at*;clear J6 hb5;go_wp2_with fail;replace E0:w6.drew.heap[wr.heap.size]?=_:=E0;replace Df:w6.drew.heap[gm]?=_:=Df;replace hb6:=hb6.drew;replace hr6:=hr6.keep (row:=none) (w':=w6.drew) ⟨D,D,D,bM _,fun _ _ _=>rfl⟩ (fun _ h=>by cases h);refine cQ (fun _=>True) aF [49,53] (by kernel_rfl) (by kernel_rfl) cM ?_;generalize w6.drew=w7 at*;have hrow:w7.rangeAt wr.heap.size 0 [O Y sz,aG aD,O Y CV,O Y hi]:=jT E0 0 (fun j v hv=>by simpa using hv);have ck:w7.cell? ⟨gm,k,J⟩=aE (O Y x):=bL Df (by simp[dp]);repeat(first|refine fQ ?_|refine fP ?_)
    refine kS dX D (by kernel_rfl) D hrow (by rfl) (by rfl) ?_;refine PT ?_;repeat(first|refine fQ ?_|refine fP ?_)
    refine eP cO D ck D (by rfl) (by rfl) ?_;refine PT ?_;repeat(first|refine fQ ?_|refine fP ?_)
    refine qB ?_;go_wp2_with fail;go_fit(Hin.out _);rintro e w8 ⟨rfl,hb78⟩;have hb8:=eI hb6 hb78;have CY:=bV Df hb78 (bT Df);have hr8:=hr6.keep (qV hb78 J) (fun _ h=>by cases h);go_wp2_with fail;refine cC cM (fun _=>hb78) ?_;refine PT ?_;repeat(first|refine fQ ?_|refine fP ?_)
    refine cV ?_;clear hrow ck E0 Df hb6 hr6 hb78
    cases Bs:Sz ⟨(sz:Int),aD,CV,hi⟩ x with
    |false=>
     have UB:tI l (oF l b)=aD:=by unfold tI;rw[uM];exact⟨_,Hm.out,by rw[Bs];simp⟩
     obtain rfl:oE=5:=by rw[HoE.out,HE.out,bX (by rw[UB];simp)]
     obtain rfl:oP= []:=by rw[HoP.out];unfold uT;rw[bX (by rw[←HoE.out];simp)]
     clear UB Bs;go_wp2;go_ret2;exact⟨J,0,0,D,dF _ _ _ _,hb8⟩
    |true=>
     have HIN:=bK Bs;clear Bs;go_wp2;go_roundw
     case rel=>
      refine⟨k+1,cur.set k (O Y x),lr.drop sz,by omega,by go_num,hr8,hb8,CY,bK (by rw[jQ];exact hcl.out),by rw[iA];omega,bK ?_,dn,bK ?_⟩
      ·rw[fD (show(cur.set k (O Y x))[k]?=aE (O Y x) by simp[dp]),fD Hvx.out,gZ,List.take_set_of_le (bM k),hcur.out];rfl
      ·rw[Hs.out,lJ,hall.out];simp[HIN.out]
     case measure=>simp[bE];omega
  ·obtain rfl:k=n:=by omega
   have ht:(l.zip (oF l b)).take k=l.zip (oF l b):=List.take_of_length_le (by rw[List.length_zip,wR,Hl.out];omega);have CZ:(oF l b).take k=oF l b:=List.take_of_length_le (by rw[wR,Hl.out];exact bM _);have ht3:cur.take k=cur:=List.take_of_length_le (by rw[hcl.out];exact bM _);rw[ht] at hall;rw[CZ,ht3] at hcur;have Y4:tI l (oF l b)=aF:=hall.out;obtain rfl:oE=0:=by rw[HoE.out,HE.out,bY Y4]
   have hP:oP.map (Value.int Y)=cur:=by rw[HoP.out,hcur.out];unfold uT;rw[bY HoE.out.symm]
   have HP:=bK hP;clear ht CZ ht3 hP Y4;go_wp2;go_ret2;exact⟨_,_,_,D,by rw[HP.out];exact Au yV (by omega) hcl.out (by unfold bB;omega),hb⟩
end
section
open Go.RowKit NumLaw
theorem qR(A:Option aW)(n c B:Nat)(l:List eK)(A':Option aW)(n' c' B':Nat)(b:List UInt8)(w:aS)(h:RdF w B A n c l)(hB:B≤w.heap.size)(h':Rd w B' 1 A' n' c' (bv b))(G3:B'≤w.heap.size)(hn:n≤100000)(DA:n'≤1000000000):
  aU bH 237 #[aL A n c,aL A' n' c'] w (KP w (uT l b) (jM l b)):=by
 have hlb:=h'.blen;have mH:=fun w' h' G3=>vS A n c B l w' h' G3;have Bt:=Gs A n c B l w h hB hn
 cases hr:mX l with
 |false=>
  have e1:jM l b=1:=by unfold jM;rw[bX (by rw[hr];simp)]
  rw[show uT l b= [] by unfold uT;rw[e1];rfl,e1];rw[hr] at mH;have Hright:=bK mH;clear hr e1 hlb mH;go_enter func237,ntmps237;go_wp2_with fail;go_fit Bt;rintro e w1 ⟨rfl,hb1⟩;go_wp2_with fail;go_fit(Hright.out w1 (h.up (hb1.mono hB)) (bU hB hb1.size));rintro e w2 ⟨rfl,hb12⟩;go_wp2;go_ret2;exact⟨J,0,0,D,dF _ _ _ _,eI hb1 hb12⟩
 |true=>
  by_cases hlen:n'=pA l
  ·exact AG A n c B l A' n' c' B' b w h hB h' G3 hn hr hlen
  ·have hw:wA l=pA l:=by unfold wA;rw[bY hr]
   rw[hw] at Bt;rw[hr] at mH;have hs8:pA l≤800000:=by have:=Fq hr l.length;rw[List.take_length,h.1] at this;omega
   have hE:jM l b=if n'<pA l then 2 else 7:=by
    unfold jM;rw[bY hr,hlb];by_cases fF:n'<pA l
    ·rw[bY fF,bY fF]
    ·rw[bX fF,bX fF,bY (by omega)]
   generalize pA l=s at*;have Hright:=bK mH;have Hne:=bK hlen;have aHu:(s:Int)≤800000:=by omega
   by_cases fF:n'<s
   ·rw[bY fF] at hE;rw[show uT l b= [] by unfold uT;rw[hE];rfl,hE];clear hE hr hw hlb mH hlen;go_enter func237,ntmps237;go_wp2_with fail;go_fit Bt;rintro e w1 ⟨rfl,hb1⟩;go_wp2_with fail;go_fit(Hright.out w1 (h.up (hb1.mono hB)) (bU hB hb1.size));rintro e w2 ⟨rfl,hb12⟩;go_wp2;go_ret2;exact⟨J,0,0,D,dF _ _ _ _,eI hb1 hb12⟩
   ·rw[bX fF] at hE;rw[show uT l b= [] by unfold uT;rw[hE];rfl,hE];have hgt:s<n':=by omega
    clear hE hr hw hlb mH hlen;go_enter func237,ntmps237;go_wp2_with fail;go_fit Bt;rintro e w1 ⟨rfl,hb1⟩;go_wp2_with fail;go_fit(Hright.out w1 (h.up (hb1.mono hB)) (bU hB hb1.size));rintro e w2 ⟨rfl,hb12⟩;go_wp2;go_ret2;exact⟨J,0,0,D,dF _ _ _ _,eI hb1 hb12⟩
theorem Fc{w:aS}{B n c:Nat}{A:Option aW}{vs:List Int}(h:Rd w B 1 A n c (vs.map (Value.int Y))){k:Nat}(hk:k<n): ∃ad x,A=aE ad∧vs[k]?=aE x∧w.cell? (ad.add k)=aE (O Y x)∧ad.block<B:=by
 obtain⟨ad,u,rfl,hu,hc⟩:=h.one hk;obtain⟨x,hx,rfl⟩: ∃x,vs[k]?=aE x∧Value.int Y x=u:=by simpa using hu
 refine⟨ad,x,D,hx,hc,?_⟩;obtain⟨ad',e',hb',_⟩:=h.at_ (by omega);injection e' with e';rw[e'];exact hb'
theorem Rf(A:Option aW)(n c B:Nat)(vs:List Int)(A':Option aW)(n' c' B':Nat)(us:List Int)(w:aS)(h:Rd w B 1 A n c (vs.map (Value.int Y)))(hB:B≤w.heap.size)(h':Rd w B' 1 A' n' c' (us.map (Value.int Y)))(G3:B'≤w.heap.size):
  aU bH 75 #[aL A n c,aL A' n' c'] w fun e w'=>e=aJ (aG (decide (vs=us)))∧aV w.heap.size w w':=by
 have hl:vs.length=n:=by have:=h.len;simpa using this
 have wu:us.length=n':=by have:=h'.len;simpa using this
 have hmx:=h.max;have hle:=h.le;unfold bB at hmx;obtain⟨r,hr⟩: ∃r:Bool,r=decide (vs=us):=⟨_,D⟩;rw[←hr];have HR:=bK hr;clear hr;by_cases WU:n=n'
 ·subst WU;have Hl:=bK hl;have Hl':=bK wu;clear hl wu;go_enter func75,ntmps75;go_wp2_with fail;go_loopw [5] (fun i wr=> ∃(k:Nat),k≤n∧i=O Y k∧aV w.heap.size w wr∧Hid (vs.take k=us.take k)) (fun i _=>n-(bE i).toNat);case atStart=>exact⟨0,by omega,D,bP _ _,bK D⟩
  case round=>
   obtain⟨k,hk,rfl,hb,heq⟩:=hrel;by_cases fF:k<n
   ·obtain⟨ad,x,rfl,hx,hcx,aHv⟩:=Fc h fF;obtain⟨ad',y,rfl,hy,UD,DB⟩:=Fc h' fF;have d1:=(hb.cell (p:=ad.add k) (by rw[lL];omega)).trans hcx;have d2:=(hb.cell (p:=ad'.add k) (by rw[lL];omega)).trans UD;have Hs:Hid (vs.take (k+1)=us.take (k+1)↔x=y):=bK (by rw[fD hx,fD hy,heq.out];simp);have Hne:Hid (x≠y→decide (vs=us)=aD):=bK (fun hne=>dN (fun e=>hne (by rw[e,hy] at hx;injection hx with hx;exact hx.symm)));clear hx hy hcx UD;go_wp2_with fail;refine cQ (fun _=>True) aF [20,24] (by kernel_rfl) (by kernel_rfl) cM ?_;replace hb:=hb.drew;replace d1:wr.drew.cell? _=_:=d1;replace d2:wr.drew.cell? _=_:=d2;generalize wr.drew=w3 at*;repeat(first|refine fQ ?_|refine fP ?_)
    refine eP cO D d1 D (by rfl) (by rfl) ?_;refine PT ?_;repeat(first|refine fQ ?_|refine fP ?_)
    refine eP cO D d2 D (by rfl) (by rfl) ?_;refine PT ?_;repeat(first|refine fQ ?_|refine fP ?_)
    refine cV ?_;clear d1 d2;by_cases hxy:x=y
    ·have Hk:=bK (Hs.out.2 hxy);subst hxy;clear Hs Hne;go_wp2;go_roundw;case rel=>exact⟨k+1,by omega,by go_num,hb,Hk⟩
     case measure=>simp[bE];omega
    ·obtain rfl:r=aD:=by rw[HR.out];exact Hne.out hxy
     clear Hs Hne;go_wp2;go_ret;exact⟨D,hb⟩
   ·obtain rfl:k=n:=by omega
    have e1:vs.take k=vs:=List.take_of_length_le (by rw[Hl.out];exact bM _);have e2:us.take k=us:=List.take_of_length_le (by rw[Hl'.out];exact bM _);rw[e1,e2] at heq;obtain rfl:r=aF:=by rw[HR.out];exact dU heq.out
    clear e1 e2;go_wp2;go_ret;exact⟨D,hb⟩
 ·have aAf: ¬(n:Int)=(n':Int):=by omega
  obtain rfl:r=aD:=by rw[HR.out];exact dN (fun e=>WU (by rw[←hl,←wu,e]))
  clear hl wu WU;go_enter func75,ntmps75;go_wp2;go_ret;exact⟨D,bP _ _⟩
abbrev fW:=@List.take_append_of_le_length
abbrev gF:=@List.drop_of_length_le
theorem JT(k:Nat)(i:Int)(h1:1≤k)(h8:k≤8)(hlo: -(128*256 ^(k-1))≤i)(Pg:i<128*256 ^(k-1)):sgn k (un i % 256 ^ k)=i:=by
 unfold sgn un;rcases(by omega:k=1∨k=2∨k=3∨k=4∨k=5∨k=6∨k=7∨k=8) with rfl|rfl|rfl|rfl|rfl|rfl|rfl|rfl;all_goals simp at hlo Pg ⊢;split<;>omega
theorem ZP(k m:Nat)(h1:1≤k)(h8:k≤8)(hm:m<256 ^ k):un (sgn k m)% 256 ^ k=m:=by
 unfold sgn un;rcases(by omega:k=1∨k=2∨k=3∨k=4∨k=5∨k=6∨k=7∨k=8) with rfl|rfl|rfl|rfl|rfl|rfl|rfl|rfl;all_goals simp at hm ⊢;split<;>omega
theorem OV(m:Nat)(h:m<18446744073709551616):un (Od m)=m:=by
 unfold un Od;split<;>omega
theorem Nz{n u v:Nat}(h:u % 256 ^ n=v % 256 ^ n):bytesN n u=bytesN n v:=
 num_inj (by rw[oC,oC]) (by rw[num_bytesN,num_bytesN,h])
theorem Yw{n:Nat}(h:n≤8):256 ^ n≤18446744073709551616:=by
 have:=fJ (n:=256) (by omega) h;have h4:(256:Nat)^ 8=18446744073709551616:=by decide
 omega
theorem Wj{f:eK}{x:Int}(hr:rS f=aF)(hx:Sz f x=aF):vZ f (bytesN f.size.toNat (un x))=x:=by
 obtain⟨h1,h8,hs,hu⟩:=Xo hr hx;unfold vZ;rw[num_bytesN]
 cases hg:f.sg with
 |true=>
  simp only[qK];have:=hs hg;unfold fI at this;obtain⟨_,_,h3,h4⟩:=eZ this;exact JT _ _ (by omega) (by omega) h3 h4
 |false=>
  simp only[iG,sD];obtain⟨hfu,hx0⟩:=hu hg;unfold fU at hfu;obtain⟨_,_,h3⟩:=eZ hfu;rw[Nat.mod_eq_of_lt h3];have Pg:x≤9223372036854775807:=by have hx:=eZ hx;obtain⟨size,sg,lo,hi⟩:=f;unfold rS at hr;simp only[dP,iP] at hr;have h4:=eZ hr.2;unfold nR at h4;rw[bY hr.1.1.1] at h4;simp only at hg hx h4;subst hg;simp only[iG,sD] at h4;rcases C9 hr.1.1.1 with rfl|rfl|rfl|rfl|rfl|rfl|rfl|rfl;all_goals simp at h4;omega
  unfold Od un;split<;>omega
theorem Vz{f:eK}{b:List UInt8}(hr:rS f=aF)(hb:b.length=f.size.toNat):bytesN f.size.toNat (un (vZ f b))=b:=by
 have hs:=xA hr;have hm:=num_lt b
 have key:bytesN f.size.toNat (un (vZ f b))=bytesN b.length (num b):=by
  rw[hb];rw[hb] at hm;refine Nz ?_;rw[Nat.mod_eq_of_lt hm];unfold vZ
  cases f.sg with
  |true=>simp only[qK];exact ZP _ _ (by omega) (by omega) hm
  |false=>
   simp only[iG,sD];rw[OV _ (cI hm (Yw (by omega))),Nat.mod_eq_of_lt hm]
 rw[key,bytesN_num]
theorem Qj: ∀(l:List eK) (vs:List Int),mX l=aF→vs.length=l.length→tI l vs=aF→oF l (Wc l vs)=vs∧(Wc l vs).length=pA l
 | [],vs,_,hl,_=>by obtain rfl:vs= []:=cU (by simpa using hl);exact⟨D,D⟩
 |f::l,[],_,hl,_=>by simp at hl
 |f::l,x::vs,hr,hl,hi=>by
  have hr':rS f=aF∧mX l=aF:=by simpa [mX] using hr
  have hi':Sz f x=aF∧tI l vs=aF:=by simpa [tI] using hi
  obtain⟨h1,h2⟩:=Qj l vs hr'.2 (by simpa using hl) hi'.2;have e:Wc (f::l) (x::vs)=bytesN f.size.toNat (un x)++Wc l vs:=by simp[Wc]
  rw[e,zY];refine⟨?_,by rw[cZ,oC,h2]⟩;have t1:(bytesN f.size.toNat (un x)++Wc l vs).take f.size.toNat=bytesN f.size.toNat (un x):=by rw[fW (by rw[oC];exact bM _),List.take_of_length_le (by rw[oC];exact bM _)]
  have t2:(bytesN f.size.toNat (un x)++Wc l vs).drop f.size.toNat=Wc l vs:=by have:(bytesN f.size.toNat (un x)).length=f.size.toNat:=oC _ _;rw[List.drop_append_of_le_length (by omega),gF (by omega)];rfl
  show vZ f _::oF l _=_;rw[t1,t2,Wj hr'.1 hi'.1,h1]
theorem Rh: ∀(l:List eK) (b:List UInt8),mX l=aF→b.length=pA l→Wc l (oF l b)=b
 | [],b,_,hl=>by obtain rfl:b= []:=cU (by simpa [pA] using hl);rfl
 |f::l,b,hr,hl=>by
  have hr':rS f=aF∧mX l=aF:=by simpa [mX] using hr
  rw[zY] at hl;have h2:=Rh l (b.drop f.size.toNat) hr'.2 (by rw[iA];omega);have e:Wc (f::l) (oF (f::l) b)=bytesN f.size.toNat (un (vZ f (b.take f.size.toNat)))++Wc l (oF l (b.drop f.size.toNat)):=by simp[Wc,oF]
  rw[e,h2,Vz hr'.1 (by rw[fH];omega),nJ]
theorem Rn{l:List eK}{vs:List Int}(h:My l vs=0):jM l (Mq l vs)=0∧uT l (Mq l vs)=vs∧(Mq l vs).length=wA l:=by
 have hP:Mq l vs=Wc l vs:=by unfold Mq;rw[bY h]
 unfold My at h;split at h
 ·rename_i h1;split at h
  ·rename_i h2;obtain⟨e1,e2⟩:=Qj l vs h1.1 h1.2 h2;have hE:jM l (Wc l vs)=0:=by unfold jM;rw[bY h1.1,bX (by omega),bX (by omega),e1,bY h2]
   rw[hP];exact⟨hE,by unfold uT;rw[bY hE,e1],by rw[e2];unfold wA;rw[bY h1.1]⟩
  ·cases h
 ·cases h
theorem sU{l:List eK}{b:List UInt8}(h:jM l b=0):My l (uT l b)=0∧Mq l (uT l b)=b∧(uT l b).length=l.length:=by
 have hT:uT l b=oF l b:=by unfold uT;rw[bY h]
 rw[hT];unfold jM at h;split at h
 ·rename_i h1;split at h
  ·cases h
  ·split at h
   ·cases h
   ·split at h
    ·rename_i h2 h3 h4;have hE:My l (oF l b)=0:=by unfold My;rw[bY ⟨h1,wR l b⟩,bY h4]
     exact⟨hE,by unfold Mq;rw[bY hE,Rh l b h1 (by omega)],wR l b⟩
    ·cases h
 ·cases h
theorem Nh{w:aS}{base:Nat}{e:aY}{n c:Nat}{A:Option aW}{xs:List aT}(h:w.ownsRow base e 1 (aL A n c) n xs)(hn:0<n): ∃g,A=aE ⟨g,0,J⟩∧base≤g∧g<w.heap.size∧∀j u,xs[j]?=aE u→w.cell? ⟨g,j,J⟩=aE u:=by
 rcases h.2 with⟨hv,h0⟩|⟨g,cap,cur,hv,hg,hh,h1,h2,h3,h4⟩
 ·injection hv with e1 e2 e3;omega
 ·have jI:=h.cells (g:=g) (by rw[hv];rfl);injection hv with e1 e2 e3;refine⟨g,e1,hg,bT hh,fun j u hu=> ?_⟩;have:=jI j u hu
  rwa[show(⟨g,0,J⟩:aW).add j=⟨g,j,J⟩ by unfold Addr.add;split<;>simp_all] at this
theorem Iu{P:aZ}{w:aS}{ops:Array bA}{rest:List bA}{a:Act}{Q:Exit→Act→aS→Prop}{x y:Operand}{t ty:aY}{pos:String}{af:Array Edge}
  (h:Stop (wpList P ops Q (⟨J,.store t x y,ty,pos,af,J⟩::rest) a w)):wpList P ops Q (⟨J,.store t x y,ty,pos,af,J⟩::rest) a w:=h
def nQ(l:List eK)(b:List UInt8):List Int:=if jM l b=0 then uT l b else List.replicate l.length 0
theorem Uv{l:List eK}{b:List UInt8}(h:jM l b≠0):nQ l b=List.replicate l.length 0:=by
 unfold nQ;rw[bX h]
end
section
open Go.RowKit
abbrev mL:=@run_loadVar_row
theorem xM(t:aY){P:aZ}{w:aS}{ops:Array bA}{rest:List bA}{a:Act}{Q:Exit→Act→aS→Prop}{d:Option Tmp}{x:Operand}{ty:aY}{pos:String}{af:Array Edge}
  (h:Stop (wpList P ops Q (⟨d,.load t x,ty,pos,af,J⟩::rest) a w)):wpList P ops Q (⟨d,.load t x,ty,pos,af,J⟩::rest) a w:=h
theorem pF(t:aY){P:aZ}{w:aS}{ops:Array bA}{rest:List bA}{a:Act}{Q:Exit→Act→aS→Prop}{x y:Operand}{ty:aY}{pos:String}{af:Array Edge}
  (h:Stop (wpList P ops Q (⟨J,.store t x y,ty,pos,af,J⟩::rest) a w)):wpList P ops Q (⟨J,.store t x y,ty,pos,af,J⟩::rest) a w:=h
def tch(l:List aY)(o:bA):Bool:=match o.op with| .load u _=>l.contains u| .store u _ _=>l.contains u|_=>aD
theorem sT(l:List aY){P:aZ}{w:aS}{ops:Array bA}{rest:List bA}{a:Act}{Q:Exit→Act→aS→Prop}{o:bA}(h:Stop (wpList P ops Q (o::rest) a w))(ho:(tch l o && o.guard.isNone)=aF:=by decide):wpList P ops Q (o::rest) a w:=h
theorem sG(l:List aY){P:aZ}{w:aS}{ops:Array bA}{rest:List bA}{a:Act}{Q:Exit→Act→aS→Prop}{o:bA}(h:Stop (wpList P ops Q (o::rest) a w))(ho:tch l o=aF:=by decide):wpList P ops Q (o::rest) a w:=h
theorem yZ(w:aS)(o0 o1:Obj):((w.alloc o0).alloc o1).heap[w.heap.size]?=aE o0∧((w.alloc o0).alloc o1).heap[w.heap.size+1]?=aE o1∧((w.alloc o0).alloc o1).heap.size=w.heap.size+2∧aV w.heap.size w ((w.alloc o0).alloc o1):=by
 have h0:=bS w o0;have h1:=bS (w.alloc o0) o1;have s0:(w.alloc o0).heap.size=w.heap.size+1:=cL _ _;have s1:((w.alloc o0).alloc o1).heap.size=w.heap.size+2:=by rw[cL,s0]
 rw[s0] at h1;exact⟨(heap_alloc_old _ o1 (h:=by omega)).trans h0,h1,s1,((bP _ _).alloc (bM _) _).alloc (by omega) _⟩
theorem WD(w:aS)(o0 o1 o2:Obj):(((w.alloc o0).alloc o1).alloc o2).heap[w.heap.size]?=aE o0∧(((w.alloc o0).alloc o1).alloc o2).heap[w.heap.size+1]?=aE o1∧(((w.alloc o0).alloc o1).alloc o2).heap[w.heap.size+2]?=aE o2∧
  (((w.alloc o0).alloc o1).alloc o2).heap.size=w.heap.size+3∧aV w.heap.size w (((w.alloc o0).alloc o1).alloc o2):=by
 obtain⟨a,b,s,hb⟩:=yZ w o0 o1;have h:=bS ((w.alloc o0).alloc o1) o2;rw[s] at h;exact⟨(heap_alloc_old _ o2 (h:=by omega)).trans a,(heap_alloc_old _ o2 (h:=by omega)).trans b,h,by rw[cL,s],hb.alloc hb.size _⟩
theorem wh(w:aS)(o0 o1 o2 o3:Obj):((((w.alloc o0).alloc o1).alloc o2).alloc o3).heap[w.heap.size]?=aE o0∧((((w.alloc o0).alloc o1).alloc o2).alloc o3).heap[w.heap.size+1]?=aE o1∧
  ((((w.alloc o0).alloc o1).alloc o2).alloc o3).heap[w.heap.size+2]?=aE o2∧((((w.alloc o0).alloc o1).alloc o2).alloc o3).heap[w.heap.size+3]?=aE o3∧
  ((((w.alloc o0).alloc o1).alloc o2).alloc o3).heap.size=w.heap.size+4∧aV w.heap.size w ((((w.alloc o0).alloc o1).alloc o2).alloc o3):=by
 obtain⟨a,b,c,s,hb⟩:=WD w o0 o1 o2;have h:=bS (((w.alloc o0).alloc o1).alloc o2) o3;rw[s] at h;exact⟨(heap_alloc_old _ o3 (h:=by omega)).trans a,(heap_alloc_old _ o3 (h:=by omega)).trans b,(heap_alloc_old _ o3 (h:=by omega)).trans c,h,by rw[cL,s],hb.alloc hb.size _⟩
theorem al5(w:aS)(o0 o1 o2 o3 o4:Obj):(((((w.alloc o0).alloc o1).alloc o2).alloc o3).alloc o4).heap[w.heap.size]?=aE o0∧(((((w.alloc o0).alloc o1).alloc o2).alloc o3).alloc o4).heap[w.heap.size+1]?=aE o1∧
  (((((w.alloc o0).alloc o1).alloc o2).alloc o3).alloc o4).heap[w.heap.size+2]?=aE o2∧(((((w.alloc o0).alloc o1).alloc o2).alloc o3).alloc o4).heap[w.heap.size+3]?=aE o3∧(((((w.alloc o0).alloc o1).alloc o2).alloc o3).alloc o4).heap[w.heap.size+4]?=aE o4∧
  (((((w.alloc o0).alloc o1).alloc o2).alloc o3).alloc o4).heap.size=w.heap.size+5∧aV w.heap.size w (((((w.alloc o0).alloc o1).alloc o2).alloc o3).alloc o4):=by
 obtain⟨a,b,c,s,hb⟩:=WD w o0 o1 o2;obtain⟨d,e,s2,hb2⟩:=yZ (((w.alloc o0).alloc o1).alloc o2) o3 o4;rw[s] at d e s2 hb2;have hk: ∀k,k<w.heap.size+3→_:=fun k hk=>hb2.block k hk;exact⟨(hk _ (by omega)).trans a,(hk _ (by omega)).trans b,(hk _ (by omega)).trans c,d,e,s2,hb.trans (hb2.mono (by omega))⟩
theorem cD{P:aZ}{fn:Func}{p q:Tmp}{ty:aY}(h:fn.results= #[.cell p ty,.tmp q])(tmps:Array aT)(w:aS)(g:Nat)(t:aY)(cs:Array aT)(fr:Nat × Nat)(d:TypeDesc)
  (hp:tmps.getD p undef=aK (aE ⟨g,0,J⟩)) (hg:w.heap[g]?=aE (aI cs t fr))
  (hu:P.underlying ty=aE d) (hd:(match d with| .struct _| .array _ _=>aF|_=>aD)=aF) (hi:(P.info? ty).map (·.size)=aE cs.size):
  (results fn tmps).run P w= .ok (aN #[.agg cs,tmps.getD q undef]) w:=by
 have yC:tmps[p]?.getD undef=aK (aE ⟨g,0,J⟩):=by simpa using hp
 simp[results,h,yC,asAddr,mL w g t ty cs fr d hg hu hd hi]
end
end Go.Proofs.YtfoabhdppkjmbaaGreat
