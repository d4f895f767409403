import Derived.Test.YtfoabhdppkjmbaaGreatKZ2
import Derived.Test.YtfoabhdppkjmbaaGreatKZ3
import Derived.Deep.DeepFit
import Derived.Deep.RegionWith
import Derived.RangeFuncNested
import Derived.RangeFuncBound
import Derived.Shelf.Abstract
import Derived.Shelf.RegionOpen
import Derived.OwnWalkIn
import Derived.TacticsInMore
import Derived.LoopNIn
import Derived.LoopIn
import Derived.Deep.RegionHeld3
import Derived.Deep.QuietTactic
import Derived.BigQuiet
set_option linter.unusedSimpArgs false
set_option linter.unusedVariables false
set_option maxHeartbeats 1000000
set_option maxRecDepth 10000
namespace Go.Proofs.YtfoabhdppkjmbaaGreat
open Bool renaming false→aD,true→aF
open Go renaming Addr→aW,Calls→aU,Ending→aX,Oper→bA,Program→aZ,TypeId→aY,Value→aT,World→aS,maxLen→bB
open Go.Ending renaming returned→aJ
open Go.IntKind renaming i64→Y,u64→aQ,u8→aP
open Go.Obj renaming cells→aI
open Go.Proofs.Tryz renaming prog→bH
open Go.RowKit renaming Below→aV,intOf→bE
open Go.Value renaming bool→aG,int→O,pointer→aK,slice→aL,tuple→aN
open Option renaming none→J,some→aE
open Go.Proofs.Tryz
namespace NumLaw
end NumLaw
section
open Go.RowKit
abbrev cH:=@List.take_of_length_le
abbrev dM:=@List.length_cons
abbrev lO:=@List.drop_eq_getElem_cons
abbrev nV:=@Nat.pow_succ
structure Jr where
 is:Bool
 n:Int
def Dt:Jr:=⟨aD,0⟩
def tR(v:Jr):List aT:= [aG v.is,O Y v.n]
structure uX where
 whole:Nat
 most:Nat
 frac:Nat
 lo:Int
 hi:Int
def L6(c:uX):List aT:= [O Y c.whole,O Y c.most,O Y c.frac,O Y c.lo,O Y c.hi]
structure uR(c:uX):Prop where
 w1:1≤c.whole
 w2:c.whole≤c.most
 m:c.most≤8
 f:c.frac≤6
 lh:c.lo≤c.hi
 lo: -((10 ^(c.most+c.frac):Nat):Int)<c.lo
 hi:c.hi<((10 ^(c.most+c.frac):Nat):Int)
def Jd(c:UInt8):Bool:=decide (48≤c.toNat∧c.toNat≤57)
def vV:Nat→Nat→List UInt8→Nat × Nat × List UInt8
 |0,n,s=>(0,n,s)
 |_+1,n,[]=>(0,n,[])
 |f+1,n,c::s=>if Jd c=aF then((vV f (10*n+(c.toNat-48)) s).1+1,(vV f (10*n+(c.toNat-48)) s).2) else(0,n,c::s)
theorem Vd: ∀(f n:Nat) (s:List UInt8),(vV f n s).1≤f∧(vV f n s).2.2=s.drop (vV f n s).1∧(vV f n s).1≤s.length
 |0,n,s=>by simp[vV]
 |f+1,n,[]=>by simp[vV]
 |f+1,n,c::s=>by
  unfold vV;split
  ·obtain⟨h1,h2,h3⟩:=Vd f (10*n+(c.toNat-48)) s;refine⟨by simp only;omega,by simp only[List.drop_succ_cons];exact h2,by simp only[dM];omega⟩
  ·simp
theorem Nv: ∀(f n j:Nat) (s:List UInt8),n<10 ^ j→(vV f n s).2.1<10 ^(j+(vV f n s).1)
 |0,n,j,s,h=>by simpa [vV] using h
 |f+1,n,j,[],h=>by simpa [vV] using h
 |f+1,n,j,c::s,h=>by
  unfold vV;split
  ·rename_i hd;have hd:48≤c.toNat∧c.toNat≤57:=by simpa [Jd] using hd
   have:=Nv f (10*n+(c.toNat-48)) (j+1) s (by rw[nV];omega);simp only;rw[show j+((vV f (10*n+(c.toNat-48)) s).1+1)=j+1+(vV f (10*n+(c.toNat-48)) s).1 by omega];exact this
  ·simpa using h
def mO(s:List UInt8)(least most frac:Nat):Option Nat:=
 if(vV (most+1) 0 s).1<least∨most<(vV (most+1) 0 s).1 then J else
 match(vV (most+1) 0 s).2.2 with
 | []=>aE ((vV (most+1) 0 s).2.1*10 ^ frac)
 |c::t=>if c≠46 then J else
  if(vV (frac+1) (vV (most+1) 0 s).2.1 t).1<1∨frac<(vV (frac+1) (vV (most+1) 0 s).2.1 t).1∨(vV (frac+1) (vV (most+1) 0 s).2.1 t).2.2≠ [] then J
  else aE ((vV (frac+1) (vV (most+1) 0 s).2.1 t).2.1*10 ^(frac-(vV (frac+1) (vV (most+1) 0 s).2.1 t).1))
abbrev sb(s:ByteArray):List UInt8:=s.data.toList
theorem iI(s:ByteArray):(sb s).length=s.size:=by cases s;rfl
theorem mY(s:ByteArray)(a b:Nat):sb (s.extract a b)=((sb s).take b).drop a:=by
 simp[sb,ByteArray.data_extract,Array.toList_extract,List.extract];rw[List.drop_take]
theorem y8(s:ByteArray)(a:Nat):sb (s.extract a s.size)=(sb s).drop a:=by
 rw[mY,cH (by rw[iI];exact bM _)]
theorem yQ(s:ByteArray)(k:Nat)(h:k<s.size):(sb s)[k]?=aE s[k]:=by
 rw[cF (by rw[iI];exact h)];rfl
theorem qF(s:ByteArray)(k:Nat)(h:k<s.size):(sb s).drop k=s[k]::(sb s).drop (k+1):=by
 rw[lO (by rw[iI];exact h)];rfl
theorem lQ(s:ByteArray):sb s= []↔s.size=0:=by
 constructor
 ·intro h;rw[←iI,h];rfl
 ·intro h;exact cU (by rw[iI];exact h)
theorem Ul{s t:ByteArray}(h:sb s=sb t):s=t:=by
 cases s;cases t;congr 1;exact Array.toList_inj.1 h
def BU(s:ByteArray):Bool:=(sb s).head?==aE 45
def Uq(s:ByteArray):Int:=if BU s=aF then-1 else 1
def FR(s:ByteArray):ByteArray:=if BU s=aF then s.extract 1 s.size else s
def takeN(s:ByteArray)(c:uX):Jr × Nat:=
 if s.size=0 then(Dt,0) else
 match mO (sb (FR s)) 1 c.most c.frac with
 |none=>(Dt,3)
 |some n=>if c.lo≤Uq s*(n:Int)∧Uq s*(n:Int)≤c.hi then(⟨aF,Uq s*n⟩,0) else(Dt,5)
def r8(Ad:Bool):Nat:=if Ad then 2 else 3
def ov(Ad:Bool):Nat:=if Ad then 90 else 180
def ni(Ad:Bool):UInt8:=if Ad then 78 else 69
def aq(Ad:Bool):UInt8:=if Ad then 83 else 87
def yI(s side:ByteArray)(Ad:Bool):Jr × Nat:=
 if s.size=0∧side.size=0 then(Dt,0) else
 match mO (sb s) (r8 Ad+2) (r8 Ad+2) 5 with
 |none=>(Dt,3)
 |some n=>
  if sb side≠ [ni Ad]∧sb side≠ [aq Ad] then(Dt,3) else
  if 6000000≤n % 10000000∨ov Ad*6000000<n/10000000*6000000+n % 10000000 then(Dt,5) else
  (⟨aF,if sb side= [aq Ad] then-((n/10000000*6000000+n % 10000000:Nat):Int) else((n/10000000*6000000+n % 10000000:Nat):Int)⟩,0)
abbrev kY:=Nat × List ByteArray
def ig(e k:Nat):Nat:=if e=0 then k else e
def tP(st:kY)(k:Nat):kY:=(ig st.1 k,st.2)
def jA(st:kY):ByteArray × kY:=
 match st.2 with
 | []=>(⟨#[]⟩,(ig st.1 3,[]))
 |s::l=>(s,(st.1,l))
def gT(c:uX)(st:kY):Jr × kY:=((takeN (jA st).1 c).1,tP (jA st).2 (takeN (jA st).1 c).2)
def nS(Ad:Bool)(st:kY):Jr × kY:=
 ((yI (jA st).1 (jA (jA st).2).1 Ad).1,tP (jA (jA st).2).2 (yI (jA st).1 (jA (jA st).2).1 Ad).2)
end
abbrev dS:=@List.cons_append
abbrev iT:=@UInt8.toNat_ofNat'
abbrev uG:=@Nat.mul_comm
def num:List UInt8→Nat
 | []=>0
 |x::l=>x.toNat+256*num l
def bytesN:Nat→Nat→List UInt8
 |0,_=> []
 |n+1,u=>UInt8.ofNat (u % 256)::bytesN n (u/256)
theorem bytesN_len(n:Nat): ∀u,(bytesN n u).length=n:=by
 induction n with
 |zero=>intro u;rfl
 |succ n ih=>intro u;simp[bytesN,ih]
theorem num_lt(l:List UInt8):num l<256 ^ l.length:=by
 induction l with
 |nil=>simp[num]
 |cons x l ih=>
  have:=x.toNat_lt;simp only[num,List.length_cons,Nat.pow_succ];omega
theorem num_bytesN(n:Nat): ∀u,num (bytesN n u)=u % 256 ^ n:=by
 induction n with
 |zero=>intro u;simp[bytesN,num,Nat.mod_one]
 |succ n ih=>
  intro u;simp only[bytesN,num,ih,Nat.pow_succ];rw[iT,uG (256 ^ n),Nat.mod_mul];omega
theorem bytesN_num: ∀l:List UInt8,bytesN l.length (num l)=l
 | []=>rfl
 |x::l=>by
  have hx:=x.toNat_lt;simp only[num,List.length_cons,bytesN];have e1:(x.toNat+256*num l)% 256=x.toNat:=by omega
  have e2:(x.toNat+256*num l)/256=num l:=by omega
  rw[e1,e2,bytesN_num l];congr 1;apply UInt8.toNat_inj.1;rw[iT];omega
theorem num_append(a b:List UInt8):num (a++b)=num a+256 ^ a.length*num b:=by
 induction a with
 |nil=>simp[num]
 |cons x a ih=>
  simp only[dS,num,ih,List.length_cons,Nat.pow_succ];rw[Nat.mul_add,←Nat.mul_assoc,uG (256 ^ a.length) 256];omega
theorem num_snoc(a:List UInt8)(x:UInt8):num (a++ [x])=num a+256 ^ a.length*x.toNat:=by
 rw[num_append];simp[num]
theorem pow256(k:Nat):256 ^ k=2 ^(8*k):=by
 rw[Nat.pow_mul]
theorem num_or(a:List UInt8)(x:UInt8):num a|||x.toNat*2 ^(8*a.length)=num (a++ [x]):=by
 have h:=num_lt a;rw[pow256] at h;rw[num_snoc,pow256,Nat.add_comm,Nat.two_pow_add_eq_or_of_lt h,Nat.or_comm,uG]
theorem num_inj: ∀ {a b:List UInt8},a.length=b.length→num a=num b→a=b
 | [],[],_,_=>rfl
 | [],_::_,h,_=>by simp at h
 |_::_,[],h,_=>by simp at h
 |x::a,y::b,h,hn=>by
  have hx:=x.toNat_lt;have hy:=y.toNat_lt;simp only[num] at hn;have h1:x.toNat=y.toNat:=by omega
  have h2:num a=num b:=by omega
  rw[num_inj (by simpa using h) h2,UInt8.toNat_inj.1 h1]
abbrev oC:=@bytesN_len
section
open Go.RowKit NumLaw
abbrev bY:=@if_pos
abbrev cI:=@Nat.lt_of_lt_of_le
abbrev cT:=@results_none
abbrev dC:=@bodyPost_end
abbrev dN:=@decide_eq_false
abbrev fJ:=@Nat.pow_le_pow_right
abbrev iG:=@Bool.false_eq_true
abbrev nI:=@Below.heap_setCell
abbrev pR:=@Option.map_some
abbrev qK:=@if_true
abbrev sD:=@if_false
def RowAt(w:aS)(g e:Nat)(v:aT)(made bad:Bool):Prop:=w.heap[g]?=aE (aI #[v,aG made,aG bad] e)
section
variable {w w':World} {g e:Nat} {v:Value} {made bad:Bool}
theorem RowAt.lt(h:RowAt w g e v made bad):g<w.heap.size:=by
 rcases iD g w.heap.size with h1|h1
 ·exact h1
 ·unfold RowAt at h;rw[iU h1] at h;cases h
theorem RowAt.c0(h:RowAt w g e v made bad):w.cell? ⟨g,0,J⟩=aE v:=by
 rw[World.cell?,show(⟨g,0,J⟩:aW).block=g from D,h];rfl
theorem RowAt.c1(h:RowAt w g e v made bad):w.cell? ⟨g,1,J⟩=aE (aG made):=by
 rw[World.cell?,show(⟨g,1,J⟩:aW).block=g from D,h];rfl
theorem RowAt.c2(h:RowAt w g e v made bad):w.cell? ⟨g,2,J⟩=aE (aG bad):=by
 rw[World.cell?,show(⟨g,2,J⟩:aW).block=g from D,h];rfl
theorem FK{w:aS}{g i:Nat}{cs:Array aT}{t:aY}{fr:Nat × Nat}(h:w.heap[g]?=aE (aI cs t fr))(v:aT):(w.setCell ⟨g,i,J⟩ v).heap[g]?=aE (aI (cs.setIfInBounds i v) t fr):=by
 obtain⟨fF,hk⟩:=Array.getElem?_eq_some_iff.1 h;show(w.heap.modify g _)[g]?=_;rw[dL (by rw[Array.size_modify];exact fF),Array.getElem_modify_self,hk];rfl
theorem RowAt.f0(h:RowAt w g e v made bad):w.frozen? ⟨g,0,J⟩=aD:=by
 rw[World.frozen?,show(⟨g,0,J⟩:aW).block=g from D,h];rfl
theorem RowAt.f2(h:RowAt w g e v made bad):w.frozen? ⟨g,2,J⟩=aD:=by
 rw[World.frozen?,show(⟨g,2,J⟩:aW).block=g from D,h];rfl
theorem RowAt.put0(h:RowAt w g e v made bad)(u:aT):RowAt (w.setCell ⟨g,0,J⟩ u) g e u made bad:=FK h u
theorem RowAt.put2(h:RowAt w g e v made bad)(b:Bool):RowAt (w.setCell ⟨g,2,J⟩ (aG b)) g e v made b:=FK h (aG b)
theorem RowAt.kept(h:RowAt w g e v made bad){row:Option Nat}(hg:w.grownBy w' row)(hne:aE g≠row):RowAt w' g e v made bad:=(hg.block g h.lt hne).trans h
theorem tH{w w':aS}{g:Nat}(h:w.grownBy w' (aE g))(i:Nat)(v:aT):w.grownBy (w'.setCell ⟨g,i,J⟩ v) (aE g):=
 h.trans ⟨D,D,D,by simp[World.setCell],fun k _ hk=>nI _ _ _ k (fun e=>hk (by rw[e]))⟩
theorem rF(w:aS)(row:Option Nat):w.grownBy w row:=⟨D,D,D,bM _,fun _ _ _=>rfl⟩
theorem qV{w w':aS}(h:aV w.heap.size w w')(row:Option Nat):w.grownBy w' row:=⟨h.os,h.tape,h.output,h.size,fun k hk _=>h.block k hk⟩
theorem Rd.grown{B n c g:Nat}{A:Option aW}{xs:List aT}(h:Rd w B 1 A n c xs)(hg:w.grownBy w' (aE g))(hB:B≤g)(fF:g<w.heap.size):Rd w' B 1 A n c xs:=
 h.keep fun p hp=>hg.cell_far p (by omega) (by intro e;injection e with e;omega)
end
theorem Bf(g e:Nat)(v:aT)(made bad:Bool)(w:aS)(h:RowAt w g e v made bad):
  aU bH 262 #[aK (aE ⟨g,0,J⟩)] w fun e w'=>e=aJ (aG (made && !bad))∧w=w':=by
 have h1:=h.c1;have h2:=h.c2;cases made<;>cases bad
 all_goals go_enter func262,ntmps262;go_wp2;go_ret;exact⟨D,D⟩
theorem Ip(g e:Nat)(v:aT)(made bad:Bool)(w:aS)(h:RowAt w g e v made bad):
  aU bH 260 #[aK (aE ⟨g,0,J⟩)] w fun x w'=>x=aJ (aN #[])∧RowAt w' g e (aL J 0 0) made aF∧w.grownBy w' (aE g):=by
 have h1:=h.c0;have h2:=h.f0;have h3:=(h.put0 (aL J 0 0)).c2;have h4:=(h.put0 (aL J 0 0)).f2;go_enter func260,ntmps260;go_wp2
 ((try simp only[Exit.inBlock,Exit.then]);refine dC (cT D _ _ _) D ?_)
 exact⟨D,(h.put0 _).put2 _,tH (tH (rF w _) 0 _) 2 _⟩
def Rdr(lo:Nat)(w:aS)(g:Nat)(l:List UInt8)(bad:Bool):Prop:=
 (∃A n c,RowAt w g 465 (aL A n c) aF bad∧Rd w g 1 A n c (bv l)∧∀ad,A=aE ad→lo≤ad.block)∧(bad=aF→l= [])
theorem FJ{A:Option aW}{c k s:Nat}{ad:aW}(h:oH A c k s=aE ad): ∃a0,A=aE a0∧a0.block=ad.block:=by
 unfold oH at h;split at h
 ·exact⟨ad,h,D⟩
 ·cases A with
  |none=>cases h
  |some a0=>
   simp only[pR] at h;injection h with h;exact⟨a0,D,by rw[←h,lL]⟩
theorem ao{w:aS}{base:Nat}{e:aY}{size n n' c:Nat}{A:Option aW}{xs:List aT}(h:w.ownsRow base e size (aL A n c) n' xs): ∀ad,A=aE ad→base≤ad.block:=by
 rintro ad rfl;rcases h.2 with⟨h,_⟩|⟨g,cap,cur,hv,hg,_⟩
 ·cases h
 ·injection hv with h1 h2 h3;injection h1 with h1;subst h1;exact hg
def XY(lo:Nat)(w:aS)(g:Nat)(l l':List UInt8)(bad:Bool)(e:aX)(w':aS):Prop:=
 ∃A n c,e=aJ (aL A n c)∧Rd w' g 1 A n c (bv l)∧Rdr lo w' g l' bad∧w.grownBy w' (aE g)
theorem GK(g e:Nat)(v:aT)(made bad:Bool)(n:Int)(w:aS)(h:RowAt w g e v made bad)(hf:(made && !bad)=aD):
  aU bH 270 #[aK (aE ⟨g,0,J⟩),O Y n] w fun x w'=>x=aJ (aL J 0 0)∧w=w':=by
 go_enter func270,ntmps270;go_wp2_with fail;go_fit(Bf g e v made bad w h);rintro x w1 ⟨rfl,rfl⟩;rw[hf];go_wp2;go_ret;exact⟨D,D⟩
theorem AV(lo g:Nat)(l:List UInt8)(n:Int)(w:aS)(h:Rdr lo w g l aD)(hn:n<0∨(l.length:Int)<n):
  aU bH 270 #[aK (aE ⟨g,0,J⟩),O Y n] w (XY lo w g [] [] aF):=by
 obtain⟨⟨A,m,c,hr,hd,hlo⟩,_⟩:=h;have hl:=hd.blen;have h0:=hr.c0;rw[hl] at hn;clear hl;go_enter func270,ntmps270;go_wp2_with fail;go_fit(Bf _ _ _ _ _ w hr);rintro x w1 ⟨rfl,rfl⟩;rcases(by omega:n<0∨¬n<0∧(m:Int)<n) with hn|⟨wB,tM⟩
 ·go_wp2_with fail;go_fit(Ip _ _ _ _ _ w hr);rintro x w2 ⟨rfl,hr2,hg⟩;go_wp2;go_ret;exact⟨J,0,0,D,iH _ _ _,⟨⟨J,0,0,hr2,iH _ _ _,fun _ h=>by cases h⟩,fun _=>rfl⟩,hg⟩
 ·go_wp2_with fail;go_fit(Ip _ _ _ _ _ w hr);rintro x w2 ⟨rfl,hr2,hg⟩;go_wp2;go_ret;exact⟨J,0,0,D,iH _ _ _,⟨⟨J,0,0,hr2,iH _ _ _,fun _ h=>by cases h⟩,fun _=>rfl⟩,hg⟩
theorem TC(lo g:Nat)(l:List UInt8)(n:Nat)(w:aS)(h:Rdr lo w g l aD)(hn:n≤l.length):
  aU bH 270 #[aK (aE ⟨g,0,J⟩),O Y n] w (XY lo w g (l.take n) (l.drop n) aD):=by
 obtain⟨⟨A,m,c,hr,hd,hlo⟩,_⟩:=h;obtain⟨i0,hi⟩:=eW nP;have hl:=hd.blen;have h0:=hr.c0;have h1:=hr.f0;have hle:=hd.le;have hm:=hd.max;unfold bB at hm;rw[hl] at hn;clear hl;have hs1:=Io (P:=bH) dH hi.1 A m c n (by omega);have hs2:=rG (P:=bH) dH hi.1 hi.2.2.1 A m c n (by omega);clear hi;go_enter func270,ntmps270;go_wp2_with fail;go_fit(Bf _ _ _ _ _ w hr);rintro x w1 ⟨rfl,rfl⟩;go_wp2;go_ret;have hg:=tH (rF w (aE g)) 0 (Value.slice (oH A c n 1) (m-n) (c-n));have hd2:=hd.grown hg (bM _) hr.lt;refine⟨A,n,n,D,?_,⟨⟨_,_,_,hr.put0 _,hd2.bdrop (by omega),fun ad h=>by obtain⟨a0,h1,h2⟩:=FJ h;rw[←h2];exact hlo a0 h1⟩,fun h=>by cases h⟩,hg⟩;have:=hd2.btake (k:=n) (by omega);exact⟨this.len,bM _,by unfold bB;omega,this.at_⟩
def Gd(n:Int)(l:List UInt8)(bad:Bool):Bool:=bad||decide (n<0)||decide ((l.length:Int)<n)
def Dk(n:Int)(l:List UInt8)(bad:Bool):List UInt8:=if Gd n l bad=aF then [] else l.take n.toNat
def Qa(n:Int)(l:List UInt8)(bad:Bool):List UInt8:=if Gd n l bad=aF then [] else l.drop n.toNat
theorem IN(n:Int)(l:List UInt8)(bad:Bool)(h:n≤8):(Dk n l bad).length≤8:=by
 unfold Dk;split
 ·simp
 ·simp;omega
theorem Rdr.keep{lo:Nat}{w w':aS}{g:Nat}{l:List UInt8}{bad:Bool}(h:Rdr lo w g l bad){row:Option Nat}(hg:w.grownBy w' row)(hr: ∀k,row=aE k→g<k):Rdr lo w' g l bad:=by
 obtain⟨⟨A,n,c,h1,h2,h4⟩,h3⟩:=h;refine⟨⟨A,n,c,h1.kept hg (fun e=>absurd (hr g e.symm) (pX _)),h2.keep fun p hp=>hg.cell_far p (Nat.lt_trans hp h1.lt) (fun e=>absurd (hr _ e.symm) (by omega)),h4⟩,h3⟩
theorem IS(lo g:Nat)(l:List UInt8)(bad:Bool)(n:Int)(w:aS)(h:Rdr lo w g l bad):
  aU bH 270 #[aK (aE ⟨g,0,J⟩),O Y n] w (XY lo w g (Dk n l bad) (Qa n l bad) (Gd n l bad)):=by
 cases bad with
 |true=>
  obtain rfl:=h.2 D;have h':=h;obtain⟨⟨A,m,c,hr,hd,hlo⟩,_⟩:=h;refine(GK _ _ _ _ _ n w hr D).mono ?_;rintro x w1 ⟨rfl,rfl⟩;exact⟨J,0,0,D,iH _ _ _,h',rF _ _⟩
 |false=>
  by_cases hn:n<0∨(l.length:Int)<n
  ·have e:Gd n l aD=aF:=by unfold Gd;rcases hn with h|h<;>simp[h]
   simp only[Dk,Qa,e,qK];exact AV lo g l n w h hn
  ·have e:Gd n l aD=aD:=by
    unfold Gd;rw[dN (by omega),dN (by omega)];rfl
   simp only[Dk,Qa,e,iG,sD];obtain⟨k,rfl⟩: ∃k:Nat,n=k:=⟨n.toNat,by omega⟩;exact TC lo g l k w h (by omega)
def bm(lo:Nat)(w:aS)(g:Nat)(v:aT)(l':List UInt8)(bad:Bool)(e:aX)(w':aS):Prop:=
 e=aJ v∧Rdr lo w' g l' bad∧w.grownBy w' (aE g)
def nU(n:Int):Int:=if n<1∨8<n then-1 else n
theorem TW{a:List UInt8}{x:UInt8}(h:a.length<8):bits .or aQ ((num a:Nat):Int) (IntKind.u64.wrap (IntKind.u64.wrap (x.toNat:Int)*2 ^(8*a.length)))=((num (a++ [x]):Nat):Int):=by
 have hx:=x.toNat_lt;have h1:x.toNat*2 ^(8*a.length)<18446744073709551616:=by rcases(by omega:a.length=0∨a.length=1∨a.length=2∨a.length=3∨a.length=4∨a.length=5∨a.length=6∨a.length=7) with h|h|h|h|h|h|h|h<;>rw[h]<;>omega
 have h2:=num_lt a;have h3:256 ^ a.length≤256 ^ 7:=fJ (by omega) (by omega);have h4:(256:Nat)^ 7=72057594037927936:=by decide
 rw[IntWalk.u64_in (x.toNat:Int) (by omega),show(x.toNat:Int)*2 ^(8*a.length)=((x.toNat*2 ^(8*a.length):Nat):Int) by simp,IntWalk.u64_in _ (by omega),u64_or_nat _ _ (by omega) h1,num_or]
theorem Cu(lo g:Nat)(l:List UInt8)(bad:Bool)(n:Int)(w:aS)(h:Rdr lo w g l bad):
  aU bH 227 #[aK (aE ⟨g,0,J⟩),O Y n] w (bm lo w g (O aQ (num (Dk (nU n) l bad))) (Qa (nU n) l bad) (Gd (nU n) l bad)):=by
 have hn: ∃n1,n1=nU n:=⟨_,D⟩;obtain⟨n1,wB⟩:=hn;rw[←wB];have hc:=IS lo g l bad n1 w h;have hle:=IN n1 l bad (by rw[wB];unfold nU;split<;>omega);generalize Dk n1 l bad=b at*;generalize Qa n1 l bad=l' at*;generalize Gd n1 l bad=oz at*;go_enter func227,ntmps227;rcases(show(n1= -1∧n<1)∨(n1= -1∧¬n<1∧8<n)∨(n1=n∧¬n<1∧¬8<n) from by rw[wB];unfold nU;split<;>omega) with⟨rfl,h1⟩|⟨rfl,h1,h2⟩|⟨rfl,h1,h2⟩
 all_goals
  clear wB;go_wp2_with fail;go_fit hc;rintro x w1 ⟨A,m,c,rfl,hrd,hr,hg⟩;have wm:=hrd.blen;rw[wm] at hle;have Hl:=bK wm;clear wm;go_wp2
  go_loop [5,18] (fun u i=> ∃k:Nat,k≤m∧i=O Y k∧u=O aQ (num (b.take k))) (fun _ i=>m-(bE i).toNat)
  case atStart=>exact⟨0,by omega,D,D⟩
  case round=>
   obtain⟨k,hk,rfl,rfl⟩:=hrel;by_cases fF:k<m
   ·obtain⟨ad,x,rfl,hx,jI⟩:=hrd.byte fF;have hk8:(b.take k).length=k:=by rw[fH,Hl.out];omega
    have hs:=TW (a:=b.take k) (x:=x) (by omega);rw[hk8,←fD hx] at hs;have Hs:=bK hs;clear hs;go_wp2
    go_round
    case rel=>exact⟨k+1,by omega,by go_num,Ei Hs.out⟩
    case measure=>simp[bE];omega
   ·obtain rfl:k=m:=by omega
    have ht:b.take k=b:=List.take_of_length_le (by rw[Hl.out];omega);rw[ht];go_wp2;go_ret;exact⟨D,hr,hg⟩
theorem YJ(n:Int)(l:List UInt8)(bad:Bool)(h:n≤8):num (Dk n l bad)<18446744073709551616:=by
 have h1:=num_lt (Dk n l bad);have h3:256 ^(Dk n l bad).length≤256 ^ 8:=fJ (by omega) (IN n l bad h);have h4:(256:Nat)^ 8=18446744073709551616:=by decide
 omega
def sgn(n:Nat)(u:Nat):Int:=if u<128*256 ^(n-1) then u else(u:Int)-256 ^ n
def iV(n:Int)(l:List UInt8)(bad:Bool):Int:=if n<1∨8<n then 0 else if Gd n l bad=aF then 0 else sgn n.toNat (num (Dk n l bad))
theorem JK(n:Nat):sgn n 0=0:=by
 unfold sgn;rw[bY (Nat.mul_pos (by omega) (Nat.pow_pos (by omega)))];rfl
theorem BB(n u:Nat)(h1:1≤n)(h8:n≤8)(hu:u<256 ^ n):wrap64 (IntKind.u64.wrap ((u:Int)*2 ^(8*(8-(n:Int))).toNat))/2 ^(8*(8-(n:Int))).toNat=sgn n u:=by
 unfold sgn wrap64;rcases(by omega:n=1∨n=2∨n=3∨n=4∨n=5∨n=6∨n=7∨n=8) with rfl|rfl|rfl|rfl|rfl|rfl|rfl|rfl;all_goals simp[IntKind.wrap,IntKind.bits,IntKind.signed] at hu ⊢;split<;>omega
theorem ZL(lo g:Nat)(l:List UInt8)(bad:Bool)(n:Int)(w:aS)(h:Rdr lo w g l bad):
  aU bH 267 #[aK (aE ⟨g,0,J⟩),O Y n] w (bm lo w g (O Y (iV n l bad)) (Qa (nU n) l bad) (Gd (nU n) l bad)):=by
 have hc:=Cu lo g l bad n w h;obtain⟨x,hx⟩: ∃x,x=iV n l bad:=⟨_,D⟩;rw[←hx];go_enter func267,ntmps267;rcases(by omega:n<1∨¬n<1∧8<n∨¬n<1∧¬8<n) with h1|⟨h1,h2⟩|⟨h1,h2⟩
 ·obtain rfl:x=0:=by rw[hx];unfold iV;rw[bY (by omega)]
  go_wp2_with fail;go_fit hc;rintro x w1 ⟨rfl,hr,hg⟩;go_wp2;go_ret;exact⟨D,hr,hg⟩
 ·obtain rfl:x=0:=by rw[hx];unfold iV;rw[bY (by omega)]
  go_wp2_with fail;go_fit hc;rintro x w1 ⟨rfl,hr,hg⟩;go_wp2;go_ret;exact⟨D,hr,hg⟩
 ·have Hx:=bK hx;clear hx;generalize hu:num (Dk (nU n) l bad)=u at*;have Hu:=bK hu;clear hu;go_wp2_with fail;go_fit hc;rintro x w1 ⟨rfl,hr,hg⟩;go_wp2;go_ret;refine⟨?_,hr,hg⟩
  have e:x=sgn n.toNat u:=by
   rw[Hx.out];unfold iV;have e1:nU n=n:=by unfold nU;rw[bX (by omega)]
   rw[e1] at Hu;rw[bX (by omega),Hu.out];split
   ·rename_i hf;have:=Hu.out;simp only[Dk,hf,qK,num] at this;rw[←this,JK]
   ·rfl
  have fF:u<256 ^ n.toNat:=by
   have e1:nU n=n:=by unfold nU;rw[bX (by omega)]
   rw[e1] at Hu;rw[←Hu.out];have h3:=num_lt (Dk n l bad);have h4:(Dk n l bad).length≤n.toNat:=by unfold Dk;split<;>simp;omega
   exact cI h3 (fJ (by omega) h4)
  obtain⟨k,rfl⟩: ∃k:Nat,n=k:=⟨n.toNat,by omega⟩;rw[e];exact Nw (BB k u (by omega) (by omega) fF)
theorem M0(lo g:Nat)(l:List UInt8)(bad:Bool)(w:aS)(h:Rdr lo w g l bad):
  aU bH 468 #[aK (aE ⟨g,0,J⟩)] w fun x w'=>x=aJ (O Y (l.length:Int))∧w=w':=by
 obtain⟨⟨A,m,c,hr,hd,hlo⟩,_⟩:=h;have h0:=hr.c0;rw[hd.blen];go_enter func468,ntmps468;go_wp2;go_ret;exact⟨D,D⟩
theorem Fv(lo g:Nat)(l:List UInt8)(bad:Bool)(w:aS)(h:Rdr lo w g l bad):
  aU bH 469 #[aK (aE ⟨g,0,J⟩)] w fun x w'=>x=aJ (aG bad)∧w=w':=by
 obtain⟨⟨A,m,c,hr,hd,hlo⟩,_⟩:=h;go_enter func469,ntmps469;go_wp2_with fail;go_fit(Bf _ _ _ _ _ w hr);rintro x w1 ⟨rfl,rfl⟩;go_wp2;go_ret;exact⟨by simp,D⟩
theorem Jq(A:Option aW)(n c B:Nat)(l:List UInt8)(w:aS)(h:Rd w B 1 A n c (bv l))(hB:B≤w.heap.size)(hn:n≤70368744177664):
  aU bH 226 #[aL A n c] w fun x w'=> ∃g,x=aJ (aK (aE ⟨g,0,J⟩))∧Rdr w.heap.size w' g l aD∧w.heap.size≤g∧aV w.heap.size w w':=by
 go_enter func226,ntmps226;go_wp2_with fail;go_fit(Fi A n c B l w h hB hn);rintro x w1 ⟨A1,c1,n1,rfl,hown,hb⟩;go_wp2;go_ret;refine⟨w1.heap.size,D,⟨⟨A1,n1,c1,bS w1 _,(oA hown).up ((bP _ _).alloc (bM _) _),ao hown⟩,fun h=>by cases h⟩,hb.size,hb.alloc hb.size _⟩
end
section
open Go.RowKit Go.Shelf NumLaw
attribute [local go_sem] Oper.semAt_some
abbrev bR:=@bodyPost_ret
abbrev cG:=@List.size_toArray
abbrev eV:=@List.getElem?_cons_succ
abbrev gG:=@Array.replicate_zero
abbrev gH:=@Array.replicate_succ
abbrev gR:=@List.append_toArray
abbrev hH:=@List.length_nil
abbrev iQ:=@List.push_toArray
theorem Ord.regionIn_{P:aZ}{n:Nat}{id l0:Nat}{l:List bA}{a:Act}{w:aS}{Q:Exit→Act→aS→Prop}(S:aS→Prop)(G:Bool)(F:List Tmp)(hm:P.follows .mixedOrders=aF)(hc:Ord.chk P l.toArray G F (List.range l.length)=aF)(hn:Bx l.toArray=aF)(hQ: ¬LetsOut Q)(hS:S w.drew)
  (h:Ord.wpE P l.toArray ⟨S,G,F⟩ (Q .normal) l a w.drew):(Code.region id l.toArray aF).wpIn (Fence.wide.inRound l0) n P Q a w:=
 wpIn_region_any hm (Ma hn hQ _ _ _ _ (Ord.any_at _ S G F hc (Ord.lst_all l) hS h))
theorem Zi(n:Int)(u:Nat)(w:aS):
  aU bH 261 #[O Y n,O aQ u] w fun x w'=>x=aJ (.func (.func 308) #[] #[aK (aE ⟨w.heap.size,0,J⟩),aK (aE ⟨w.heap.size+1,0,J⟩)])∧
   w'=(w.alloc (aI #[O Y n] 3)).alloc (aI #[O aQ u] 151):=by
 go_enter func261,ntmps261;go_wp2;go_ret;exact⟨D,D⟩
theorem So{n u k:Nat}(h:k<n):(bytesN n u).take (k+1)=(bytesN n u).take k++ [UInt8.ofNat (u/256 ^ k % 256)]:=by
 have:(bytesN n u)[k]?=aE (UInt8.ofNat (u/256 ^ k % 256)):=by
  induction n generalizing u k with
  |zero=>omega
  |succ n ih=>
   cases k with
   |zero=>simp[bytesN]
   |succ k=>
    simp only[bytesN,eV];rw[ih (by omega),Nat.div_div_eq_div_mul,Nat.pow_succ,uG 256]
 rw[fD this]
theorem AK(n u g1 g2:Nat)(m:Nat)(hn:n≤8)(hu:u<18446744073709551616)(hne:g1≠g2):
  TB bH m 308 #[aK (aE ⟨g1,0,J⟩),aK (aE ⟨g2,0,J⟩)] (fun x:UInt8=> #[O aP (x.toNat:Int)]) (fun k=>k=g2) (fun k=>k=g2) (bytesN n u)
   (fun W=>W.heap[g1]?=aE (aI #[O Y n] 3)∧W.heap[g2]?=aE (aI #[O aQ u] 151)):=by
 rintro l aB Jx W ⟨h1,h2⟩ hJ hJx hY h0;have Lk:Fence.wide.round=J:=D;have Aq:W.cell? ⟨g1,0,J⟩=aE (O Y n):=bL h1 D;refine callsIn_of_wp func308 D cM ?_ Lk;simp only[ntmps308,cG,List.length_cons,hH,Nat.reduceAdd,Nat.reduceSub,gH,gG,iQ,gR,eF,dS];gi_wp2;gi_loopw [5] (fun i wr=> ∃k:Nat,k≤n∧i=O Y k∧aB ((bytesN n u).take k) wr∧wr.heap[g2]?=aE (aI #[O aQ ((u/256 ^ k:Nat):Int)] 151)) (fun i wr=>n-(bE i).toNat);case atStart=>exact⟨0,by omega,D,by simpa using h0,by simpa using h2⟩
 case round=>
  obtain⟨k,hk,rfl,hj,hb⟩:=hrel;by_cases fF:k<n
  ·have ht:=So (u:=u) fF;have hp:(bytesN n u).take k++ [UInt8.ofNat (u/256 ^ k % 256)]<+:bytesN n u:=by rw[←ht];exact List.take_prefix _ _
   have hv:u/256 ^(k+1)=u/256 ^ k/256:=by rw[Nat.pow_succ,←Nat.div_div_eq_div_mul]
   have LW:u/256 ^ k<18446744073709551616:=Nat.lt_of_le_of_lt (Nat.div_le_self _ _) hu;obtain⟨fn,tmps,assign,body,hy,hR⟩:=hY _ _ _ hj hp;have hb1:=bL (i:=0) hb D;have hb2:=bZ (i:=0) hb;rw[←ht] at hR;have Ht:=bK (bO ht hv);clear ht hp hv;generalize u/256 ^ k=v at*;have e1:(UInt8.ofNat (v % 256)).toNat=v % 256:=by rw[iT];omega
   rw[e1,show((v % 256:Nat):Int)=(v:Int)% 256 by omega] at hy;gi_wp2;refine⟨fun hd=>by simp[Fence.wide] at hd,hR.mono ?_⟩;rintro e W3 (⟨rfl,Ey,hk3⟩|⟨rfl,De⟩)
   ·have hb3:=hk3.2 _ _ D hb;have aHj:=bL (i:=0) hb3 D;have aHk:=bZ (i:=0) hb3;gi_wp2;go_roundw;case rel=>refine⟨k+1,by omega,by go_num,hJ _ _ _ Ey ((cY _ _).set _ D),?_⟩;have:=cN (i:=0) hb3 (O aQ ((v:Int)/256));rw[Ht.out.2];simpa using this
    case measure=>simp[bE];omega
   ·gi_wp2;refine bR (cT D _ _ _) D ?_;exact⟨⟨_,D⟩,.inr ⟨_,List.take_prefix _ _,De⟩⟩
  ·obtain rfl:k=n:=by omega
   have ht:(bytesN k u).take k=bytesN k u:=List.take_of_length_le (by rw[oC];exact bM _);rw[ht] at hj;gi_wp2;go_end0;exact⟨⟨_,D⟩,.inl hj⟩
abbrev lH:=@callsIn_of_wp_marks
abbrev lR:=@run_takeDeferred
abbrev rK:=@callsIn_wide
abbrev wU:=@enters_of
def Sj(g:Nat)(v:aT)(k:Nat):Prop:=k=g∨v.ownBlock=aE k
def Wtr(w:aS)(g:Nat)(v:aT)(l:List UInt8)(bad:Bool):Prop:=
 RowAt w g 394 v aF bad∧w.ownsRow (g+1) 5 1 v l.length (bv l)∧(bad=aF→l= [])
theorem eU{w:aS}{base:Nat}{e:aY}{size:Nat}{v:aT}{n:Nat}{xs:List aT}(h:w.ownsRow base e size v n xs){k:Nat}(hk:v.ownBlock=aE k):base≤k∧k<w.heap.size:=by
 rcases h.2 with⟨rfl,_⟩|⟨g,cap,cur,rfl,hg,hh,_⟩
 ·simp[Value.ownBlock] at hk
 ·simp[Value.ownBlock] at hk;subst hk;refine⟨hg,?_⟩;rcases iD g w.heap.size with h1|h1
  ·exact h1
  ·rw[iU h1] at hh;cases hh
theorem iZ{w w':aS}{base:Nat}{e:aY}{size:Nat}{v:aT}{n:Nat}{xs:List aT}{U:Nat→Prop}(h:w.ownsRow base e size v n xs)(ha:Aw U w w')(hu: ∀k,v.ownBlock=aE k→¬U k):w'.ownsRow base e size v n xs:=by
 refine⟨h.1,?_⟩;rcases h.2 with h2|⟨g,cap,cur,rfl,hg,hh,r⟩
 ·exact .inl h2
 ·exact .inr ⟨g,cap,cur,D,hg,ha.keep hh (hu g D),r⟩
theorem RowAt.aw{w w':aS}{g e:Nat}{v:aT}{made bad:Bool}{U:Nat→Prop}(h:RowAt w g e v made bad)(ha:Aw U w w')(hu: ¬U g):RowAt w' g e v made bad:=ha.keep h hu
theorem Wtr.lt{w:aS}{g:Nat}{v:aT}{l:List UInt8}{bad:Bool}(h:Wtr w g v l bad):g<w.heap.size:=h.1.lt
theorem Wtr.foot{w:aS}{g:Nat}{v:aT}{l:List UInt8}{bad:Bool}(h:Wtr w g v l bad){k:Nat}(hk:Sj g v k):g≤k∧k<w.heap.size:=by
 rcases hk with rfl|hk
 ·exact⟨bM _,h.lt⟩
 ·have:=eU h.2.1 hk;omega
theorem Wtr.keep{w w':aS}{g:Nat}{v:aT}{l:List UInt8}{bad:Bool}{U:Nat→Prop}(h:Wtr w g v l bad)(ha:Aw U w w')(hu: ∀k,Sj g v k→¬U k):Wtr w' g v l bad:=
 ⟨h.1.aw ha (hu g (.inl D)),iZ h.2.1 ha (fun k hk=>hu k (.inr hk)),h.2.2⟩
theorem Aw.of_grown{w w':aS}{row:Option Nat}(h:w.grownBy w' row):Aw (fun k=>row=aE k) w w':=⟨h.os,h.tape,h.output,h.size,fun k hk hu=>h.block k hk (fun e=>hu e.symm)⟩
def RetW(w:aS)(g:Nat)(v:aT)(l':List UInt8)(oz:Bool)(e:aX)(w':aS):Prop:=
 e=aJ (aN #[])∧∃v',Wtr w' g v' l' oz∧Aw (Sj g v) w w'∧∀k,v'.ownBlock=aE k→v.ownBlock=aE k∨w.heap.size≤k
theorem BP(w:aS):aU bH 165 #[] w fun e w'=>e=aJ (aK (aE ⟨w.heap.size,0,J⟩))∧Wtr w' w.heap.size (aL J 0 0) [] aD∧aV w.heap.size w w':=by
 go_enter func165,ntmps165;go_wp2;go_ret;exact⟨D,⟨bS w _,dF _ _ _ _,fun h=>by cases h⟩,(bP _ _).alloc (bM _) _⟩
theorem zP(g e:Nat)(v:aT)(made bad:Bool)(w:aS)(h:RowAt w g e v made bad):
  aU bH 216 #[aK (aE ⟨g,0,J⟩)] w fun x w'=>x=aJ (aG (!(made && !bad)))∧w=w':=by
 go_enter func216,ntmps216;go_wp2_with fail;go_fit(Bf _ _ _ _ _ w h);rintro x w1 ⟨rfl,rfl⟩;go_wp2;go_ret;exact⟨by simp,D⟩
theorem JN(g e:Nat)(v:aT)(made bad:Bool)(n:Int)(u:Nat)(fits:Bool)(w:aS)(h:RowAt w g e v made bad)(hf:(made && !bad)=aD):
  aU bH 215 #[aK (aE ⟨g,0,J⟩),O Y n,O aQ u,aG fits] w fun x w'=>x=aJ (aN #[])∧aV w.heap.size w w':=by
 have h1:RowAt (w.alloc (aI #[aK (aE ⟨g,0,J⟩)] 315)) g e v made bad:=(heap_alloc_old w _ (h:=h.lt)).trans h;go_enter func215,ntmps215;go_wp2_with fail;go_fit(zP g e v made bad _ h1);rintro x w1 ⟨rfl,rfl⟩;rw[hf];go_wp2
 ((try simp only[Exit.inBlock,Exit.then]);refine bR (cT D _ _ _) D ?_)
 exact⟨D,(bP _ _).alloc (bM _) _⟩
theorem PV(g:Nat)(v:aT)(l:List UInt8)(n:Int)(u:Nat)(w:aS)(h:Wtr w g v l aD):
  aU bH 215 #[aK (aE ⟨g,0,J⟩),O Y n,O aQ u,aG aD] w (RetW w g v [] aF):=by
 have h1:RowAt (w.alloc (aI #[aK (aE ⟨g,0,J⟩)] 315)) g 394 v aF aD:=(heap_alloc_old w _ (h:=h.1.lt)).trans h.1;go_enter func215,ntmps215;go_wp2_with fail;go_fit(zP g _ v aF aD _ h1);rintro x w1 ⟨rfl,rfl⟩;go_wp2_with fail;go_fit(Ip _ _ _ _ _ _ h1);rintro x w2 ⟨rfl,hr2,hg⟩;go_wp2
 ((try simp only[Exit.inBlock,Exit.then]);refine bR (cT D _ _ _) D ?_)
 exact⟨D,aL J 0 0,⟨hr2,dF _ _ _ _,fun _=>rfl⟩,(((cY _ w).alloc _).trans ((Aw.of_grown hg).mono fun k hk=> .inl (by injection hk with hk;exact hk.symm))),fun k hk=>by cases hk⟩
theorem FT(g:Nat)(v:aT)(l:List UInt8)(n u:Nat)(w:aS)(h:Wtr w g v l aD)(hn:n≤8)(hu:u<18446744073709551616)(hl:l.length≤1000000):
  aU bH 215 #[aK (aE ⟨g,0,J⟩),O Y n,O aQ u,aG aF] w (RetW w g v (l++bytesN n u) aD):=by
 have hW0:Aw (fun _=>False) w (w.alloc (aI #[aK (aE ⟨g,0,J⟩)] 315)):=(cY _ w).alloc _;have h1:=h.keep hW0 (fun k _ hk=>hk);have hbx:(w.alloc (aI #[aK (aE ⟨g,0,J⟩)] 315)).heap[w.heap.size]?=aE (aI #[aK (aE ⟨g,0,J⟩)] 315):=bS w _;have iJ:(w.alloc (aI #[aK (aE ⟨g,0,J⟩)] 315)).heap.size=w.heap.size+1:=by simp
 obtain⟨i0,hi⟩:=eW nP;have Hi:=bK hi;clear hi;refine(rK (n:=9)).1 ?_;have Lk:Fence.wide.round=J:=D;refine lH func215 D cM ?_ Lk;simp only[ntmps215,cG,List.length_cons,hH,Nat.reduceAdd,Nat.reduceSub,gH,gG,iQ,gR,eF,dS];gi_wp2_with fail;refine⟨cM,(callsIn_wide.2 (zP g _ v aF aD _ h1.1)).mono ?_⟩;rintro x w1 ⟨rfl,rfl⟩;gi_wp2_with fail;refine⟨cM,(callsIn_wide.2 (Zi n u _)).mono ?_⟩;rintro x w1 ⟨rfl,rfl⟩;rw[iJ];generalize NW:(w.alloc (aI #[aK (aE ⟨g,0,J⟩)] 315))=w1 at*;have wD:((w1.alloc (aI #[O Y n] 3)).alloc (aI #[O aQ u] 151)).heap.size=w.heap.size+3:=by simp[iJ]
 have hA2:Aw (fun _=>False) w1 ((w1.alloc (aI #[O Y n] 3)).alloc (aI #[O aQ u] 151)):=((cY _ _).alloc _).alloc _
 have wB:((w1.alloc (aI #[O Y n] 3)).alloc (aI #[O aQ u] 151)).heap[w.heap.size+1]?=aE (aI #[O Y n] 3):=by
  have:=heap_alloc_old (w1.alloc (aI #[O Y n] 3)) (aI #[O aQ u] 151) (h:=show w1.heap.size<(w1.alloc (aI #[O Y n] 3)).heap.size from by simp);rw[bS w1 _] at this
  rwa[iJ] at this
 have tM:((w1.alloc (aI #[O Y n] 3)).alloc (aI #[O aQ u] 151)).heap[w.heap.size+2]?=aE (aI #[O aQ u] 151):=by
  have:=Ek w1 (aI #[O Y n] 3) (aI #[O aQ u] 151)
  rwa[iJ] at this
 have h2:=h1.keep hA2 (fun k _ hk=>hk);have hb2:=hA2.keep hbx (fun hk=>hk);have hA02:=hW0.trans hA2;rw[show w.heap.size+1+1=w.heap.size+2 by omega];generalize((w1.alloc (aI #[O Y n] 3)).alloc (aI #[O aQ u] 151))=w2 at*;have Y0:=fun k (hk:Sj g v k)=>h.foot hk;clear NW hA2 h1 hbx iJ hW0 w1;gi_wp2_with fail
 refine vP D (wU func308 (by kernel_rfl) D) (AK n u (w.heap.size+1) (w.heap.size+2) _ hn hu (by omega)) (fun W hW=>⟨hW.keep wB (fun hk=>hk),hW.keep tM (fun hk=>hk)⟩) (fun x=>rfl) (fun k hk=>by rw[hk,wD];omega) (fun k hk=>by rw[hk,wD];omega)
  (fun pre W=>W.heap[w.heap.size]?=aE (aI #[aK (aE ⟨g,0,J⟩)] 315)∧Aw (Sj g v) w W∧∃v',Wtr W g v' (l++pre) aD∧∀k,v'.ownBlock=aE k→v.ownBlock=aE k∨w.heap.size+5≤k)
  (fun _ _ _=>False) ?hI (fun _ _ _ _ h _=>h) ?h0
  (fun x=> { tmps:= #[aK (aE ⟨g,0,J⟩),O Y n,O aQ u,aG aF,aK (aE ⟨w.heap.size,0,J⟩),undef,undef,undef,O aP (x.toNat:Int),aG aD,aK (aE ⟨g,0,J⟩),aG aD,aG aD,aG aF,aG aD,undef,undef,undef,undef,O Y n,O aQ u,.func (.func 308) #[] #[aK (aE ⟨w.heap.size+1,0,J⟩),aK (aE ⟨w.heap.size+2,0,J⟩)],O aP (x.toNat:Int),undef,undef,undef,undef,undef,undef,undef,undef,undef,undef,undef,undef],defers:= [] }) ?assign ?body ?done (fun _ _ _ _ h _=>h.elim)
 case assign=>intro l x W K hK;gi_wp2;exact hK
 case hI=>
  rintro pre A B ⟨hb,ha,v',hw,hv⟩ hab;have hn: ∀k,(k=w.heap.size+2∨k=w2.heap.size∨k=w2.heap.size+1)→w.heap.size+2≤k∧k≤w.heap.size+4:=fun k hk=>by rw[wD] at hk;omega
  refine⟨hab.keep hb (fun hk=> ?_),⟨hab.os.trans ha.os,hab.tape.trans ha.tape,hab.output.trans ha.output,bU ha.size hab.size,fun k hk hf=>(hab.block k (cI hk ha.size) (fun hu=> ?_)).trans (ha.block k hk hf)⟩,v',hw.keep hab (fun k hk hu=> ?_),hv⟩
  ·have:=hn _ hk;omega
  ·have:=hn _ hu;omega
  ·have h1:=hn _ hu;rcases hk with rfl|hk
   ·have:=h.lt;omega
   ·rcases hv k hk with h2|h2
    ·have:=Y0 k (.inr h2);omega
    ·omega
 case h0=>exact⟨hb2,hA02.mono (fun k hk=>hk.elim),v,by simpa using h2,fun k hk=> .inl hk⟩
 case body=>
  rintro pre x W ⟨hb,ha,v',hw,hv⟩ hpre zB;gi_wp2_with fail;have df:W.cell? ⟨w.heap.size,0,J⟩=aE (aK (aE ⟨g,0,J⟩)):=bL hb D;refine Ord.regionIn_ (fun w'=>w'.cell? ⟨w.heap.size,0,J⟩=aE (aK (aE ⟨g,0,J⟩))) aF [28] (by kernel_rfl) (by kernel_rfl) (by kernel_rfl) (fun⟨_,_,h⟩=>h) df ?_;have hKW:Aw (fun _=>False) W W.drew:=(cY _ W).drew;replace df:W.drew.cell? ⟨w.heap.size,0,J⟩=_:=df;have J4:=hw.keep hKW (fun k _ hk=>hk);have pf:w2.heap.size+2≤W.drew.heap.size:=zB;have hb2':W.drew.heap[w.heap.size]?=_:=hb;generalize W.drew=W1 at*;obtain⟨hrow,hown,_⟩:=J4;obtain⟨A0,c0,rfl⟩:=O4 hown;obtain⟨k0,pg⟩: ∃k0,k0=(l++pre).length:=⟨_,D⟩;rw[←pg] at hown hrow hv;have hc0:=hrow.c0;have aD5:k0≤1000008:=by have h1:=hpre.length_le;rw[oC] at h1;rw[pg];simp at h1 ⊢;omega
  have Hk0:=bK pg;clear pg;refine cR underlying315 D (fun w2 hS=>hS) df D (by rfl) ?_;refine PT ?_;refine cR underlying315 D (fun w2 hS=>hS) df D (by rfl) ?_;refine PT ?_;repeat(first|refine fQ ?_|refine fP ?_)
  refine eP dH D hc0 D (by rfl) (by rfl) ?_;refine PT ?_;repeat(first|refine fQ ?_|refine fP ?_)
  refine qB ?_;go_wp2;have hA3:Aw (fun _=>False) W1 (W1.alloc (aI #[O aP (x.toNat:Int)] 5)):=(cY _ _).alloc _;have aAa:(W1.alloc (aI #[O aP (x.toNat:Int)] 5)).cell? ⟨w.heap.size,0,J⟩=aE (aK (aE ⟨g,0,J⟩)):=(World.cell?_alloc_lt _ _ _ (World.block_lt_of_cell? W1 _ df)).trans df;have Ll:Rd (W1.alloc (aI #[O aP (x.toNat:Int)] 5)) (W1.heap.size+1) 1 (aE ⟨W1.heap.size,0,J⟩) 1 1 (bv [x]):=GU W1 5 [x] (0,0) (by simp[bB]);refine cC aAa (fun _=>(bP _ _).alloc (bM _) _) ?_;refine PT ?_;refine qB ?_;have Tb:=iZ hown hA3 (fun k _ hk=>hk);have aAb:(W1.alloc (aI #[O aP (x.toNat:Int)] 5)).heap.size=W1.heap.size+1:=by simp
  have hrow3:=hrow.aw hA3 (fun hk=>hk);have hb3:=hA3.keep hb2' (fun hk=>hk);generalize hW3:(W1.alloc (aI #[O aP (x.toNat:Int)] 5))=W3 at*;have hA33:Aw (fun _=>False) W W3:=hKW.trans hA3;go_wp2_with(at_builtin;refine rP ?_);refine eL (iY (base:=g+1) (n:=k0) (xs:=bv (l++pre)) dH Hi.out D (by omega) Tb D Ll D (F6 _) (k:=k0+1) D (Pc _ _).symm (by unfold bB;omega) (by omega) (by have:=hrow3.lt;omega) ?_);intro A4 c4 w4 Y1 hg4 hob4;have hA4:=Aw.of_grown hg4;have ph: ∀k,(Value.slice A0 k0 c0).ownBlock=aE k→g+1≤k∧k<W1.heap.size:=fun k hk=>eU hown hk;have hrow4:=hrow3.aw hA4 (fun hk=>by have:=ph _ hk;omega)
  have hb4:=hA4.keep hb3 (fun hk=>by
   have h1:=ph _ hk;rcases hv _ hk with h2|h2
   ·have:=Y0 _ (.inr h2);omega
   ·omega)
  refine cC (bL hb4 D) (fun h=>by cases h) ?_;refine PT ?_;repeat(first|refine fQ ?_|refine fP ?_)
  refine qB ?_;have h41:=hrow4.c0;have Gb:=hrow4.f0;go_wp2;have hA5:Aw (fun k=>k=g) w4 (w4.setCell ⟨g,0,J⟩ (aL A4 (k0+1) c4)):=(cY _ _).set _ D;have pj:=hrow4.put0 (aL A4 (k0+1) c4);have hb5:=hA5.keep hb4 (fun hk=>by have:=h.lt;omega);have Tf:=iZ Y1 hA5 (fun k hk hu=>by have:=(eU Y1 hk).1;omega);generalize(w4.setCell ⟨g,0,J⟩ (aL A4 (k0+1) c4))=w5 at*;refine cC (bL hb5 D) (fun h=>by cases h) ?_;refine PT ?_;refine cV ?_;have hA6:Aw (Sj g (aL A0 k0 c0)) W w5:=(hA33.mono fun k hk=>hk.elim).trans ((hA4.mono fun k hk=> .inr hk).trans (hA5.mono fun k hk=> .inl hk));refine⟨hA6.keeps fun k hk hu=> ?_,hb5,⟨hA6.os.trans ha.os,hA6.tape.trans ha.tape,hA6.output.trans ha.output,bU ha.size hA6.size,fun k hk hf=>(hA6.block k (cI hk ha.size) (fun hu=> ?_)).trans (ha.block k hk hf)⟩,aL A4 (k0+1) c4,⟨pj,?_,fun h=>by cases h⟩,fun k hk=> ?_⟩
  ·have h1:w.heap.size≤k∧k≤w.heap.size+4:=by rw[wD] at hk;omega
   rcases hu with rfl|hu
   ·have:=h.lt;omega
   ·rcases hv _ hu with h2|h2
    ·have:=Y0 _ (.inr h2);omega
    ·omega
  ·rcases hu with rfl|hu
   ·exact hf (.inl D)
   ·rcases hv _ hu with h2|h2
    ·exact hf (.inr h2)
    ·omega
  ·rw[show(l++(pre++ [x])).length=k0+1 by rw[Hk0.out];simp;omega,show l++(pre++ [x])=(l++pre)++ [x] by simp];exact Tf
  ·rcases hob4 with h1|h1
   ·exact hv _ (h1▸hk)
   ·rw[h1] at hk;injection hk with hk;right;have:=aAb;omega
 case done=>
  rintro W ⟨hb,ha,v',hw,hv⟩ hd;gi_wp2;refine⟨by simp,.inl ⟨_,_,D,lR hd,?_⟩⟩;have hA7:Aw (fun k=>k=w2.heap.size) W (W.putObj w2.heap.size (.deferred J)):=(cY _ _).put _ D;refine⟨_,cT D _ _ _,D,v',hw.keep hA7 (fun k hk hu=> ?_),⟨hA7.os.trans ha.os,hA7.tape.trans ha.tape,hA7.output.trans ha.output,bU ha.size hA7.size,fun k hk hf=>(hA7.block k (cI hk ha.size) (fun hu=>by omega)).trans (ha.block k hk hf)⟩,fun k hk=> ?_⟩
  ·rcases hk with rfl|hk
   ·have:=h.lt;omega
   ·rcases hv _ hk with h2|h2
    ·have:=Y0 _ (.inr h2);omega
    ·omega
  ·rcases hv _ hk with h2|h2
   ·exact .inl h2
   ·right;omega
abbrev mA:=@Aw.of_grown
end
section
open Go.RowKit Go.Shelf NumLaw
abbrev dU:=@decide_eq_true
abbrev wH:=@Bool.eq_iff_iff
def iu(bad fits:Bool)(l add:List UInt8):List UInt8:=if(bad|| !fits)=aF then [] else l++add
theorem Aw.of_below'{w w':aS}{U:Nat→Prop}(h:aV w.heap.size w w'):Aw U w w':=⟨h.os,h.tape,h.output,h.size,fun k hk _=>h.block k hk⟩
theorem RetW.of_below{w w':aS}{g:Nat}{v:aT}{l:List UInt8}{bad:Bool}(h:Wtr w g v l bad)(hb:aV w.heap.size w w'):RetW w g v l bad (aJ (aN #[])) w':=
 ⟨D,v,h.keep (Aw.of_below' (U:=fun _=>False) hb) (fun _ _ hk=>hk),Aw.of_below' hb,fun k hk=> .inl hk⟩
theorem Qz(g:Nat)(v:aT)(l:List UInt8)(bad:Bool)(n:Int)(u:Nat)(fits:Bool)(w:aS)(h:Wtr w g v l bad)(hn:fits=aF→0≤n∧n≤8)(hu:u<18446744073709551616)(hl:l.length≤1000000):
  aU bH 215 #[aK (aE ⟨g,0,J⟩),O Y n,O aQ u,aG fits] w (RetW w g v (iu bad fits l (bytesN n.toNat u)) (bad|| !fits)):=by
 cases bad with
 |true=>
  obtain rfl:=h.2.2 D;refine(JN g _ v aF aF n u fits w h.1 D).mono ?_;rintro x w' ⟨rfl,hb⟩;exact RetW.of_below h hb
 |false=>
  cases fits with
  |false=>exact PV g v l n u w h
  |true=>
   obtain⟨k,rfl⟩: ∃k:Nat,n=k:=⟨n.toNat,by have:=hn D;omega⟩;exact FT g v l k u w h (by have:=hn D;omega) hu hl
def fU(n:Int)(u:Nat):Bool:=decide (1≤n∧n≤8∧u<256 ^ n.toNat)
theorem oa(n:Int)(u:Nat)(h1:1≤n)(h2:n≤7):fU n u=(n==8||(u:Int)/2 ^(8*n).toNat==0):=by
 unfold fU;rw[wH];rcases(by omega:n=1∨n=2∨n=3∨n=4∨n=5∨n=6∨n=7) with rfl|rfl|rfl|rfl|rfl|rfl|rfl;all_goals simp;omega
theorem bq(g:Nat)(v:aT)(l:List UInt8)(bad:Bool)(n:Int)(u:Nat)(w:aS)(h:Wtr w g v l bad)(hu:u<18446744073709551616)(hl:l.length≤1000000):
  aU bH 166 #[aK (aE ⟨g,0,J⟩),O Y n,O aQ u] w (RetW w g v (iu bad (fU n u) l (bytesN n.toNat u)) (bad|| !fU n u)):=by
 have Al:=fun(fits:Bool) hn=>Qz g v l bad n u fits w h hn hu hl;rcases(by omega:n<1∨8<n∨n=8∨(1≤n∧n≤7)) with h1|h1|rfl|⟨h1,h2⟩
 ·have hf:fU n u=aD:=by unfold fU;rw[dN];omega
  rw[hf];have hc:=Al aD (fun h=>by cases h);clear hf Al;go_enter func166,ntmps166;go_wp2_with fail;go_fit hc;rintro x w' hret;obtain rfl:=hret.1;go_wp2
  ((try simp only[Exit.inBlock,Exit.then]);refine dC (cT D _ _ _) D ?_)
  exact hret
 ·have hf:fU n u=aD:=by unfold fU;rw[dN];omega
  rw[hf];have hc:=Al aD (fun h=>by cases h);clear hf Al;go_enter func166,ntmps166;go_wp2_with fail;go_fit hc;rintro x w' hret;obtain rfl:=hret.1;go_wp2
  ((try simp only[Exit.inBlock,Exit.then]);refine dC (cT D _ _ _) D ?_)
  exact hret
 ·have hf:fU 8 u=aF:=by
   unfold fU;rw[dU];exact⟨by omega,by omega,hu⟩
  rw[hf];have hc:=Al aF (fun h=>by omega);clear hf Al;go_enter func166,ntmps166;go_wp2_with fail;go_fit hc;rintro x w' hret;obtain rfl:=hret.1;go_wp2
  ((try simp only[Exit.inBlock,Exit.then]);refine dC (cT D _ _ _) D ?_)
  exact hret
 ·obtain⟨b,hb⟩: ∃b,b=fU n u:=⟨_,D⟩;rw[←hb];have hc:aU bH 215 #[aK (aE ⟨g,0,J⟩),O Y n,O aQ u,aG (n==8||(u:Int)/2 ^(8*n).toNat==0)] w (RetW w g v (iu bad b l (bytesN n.toNat u)) (bad|| !b)):=by rw[←oa n u h1 h2,←hb];exact Al b (fun _=>by omega)
  clear Al hb;go_enter func166,ntmps166;go_wp2_with fail;go_fit hc;rintro x w' hret;obtain rfl:=hret.1;go_wp2
  ((try simp only[Exit.inBlock,Exit.then]);refine dC (cT D _ _ _) D ?_)
  exact hret
def fI(n:Int)(i:Int):Bool:=decide (1≤n∧n≤8∧ -(128*256 ^(n.toNat-1))≤i∧i<128*256 ^(n.toNat-1))
def un(i:Int):Nat:=(i % 18446744073709551616).toNat
theorem VV(i:Int):un i<18446744073709551616:=by unfold un;omega
theorem X2(i:Int):IntKind.u64.wrap i=((un i:Nat):Int):=by
 unfold un;simp[IntKind.wrap,IntKind.bits,IntKind.signed];omega
theorem VW(n i:Int)(h1:1≤n)(h2:n≤8):fI n i=(i/2 ^(8*n-1).toNat==0||i/2 ^(8*n-1).toNat== -1):=by
 unfold fI;rw[wH];rcases(by omega:n=1∨n=2∨n=3∨n=4∨n=5∨n=6∨n=7∨n=8) with rfl|rfl|rfl|rfl|rfl|rfl|rfl|rfl;all_goals simp;omega
theorem bp(g:Nat)(v:aT)(l:List UInt8)(bad:Bool)(n i:Int)(w:aS)(h:Wtr w g v l bad)(hi: -9223372036854775808≤i∧i≤9223372036854775807)(hl:l.length≤1000000):
  aU bH 266 #[aK (aE ⟨g,0,J⟩),O Y n,O Y i] w (RetW w g v (iu bad (fI n i) l (bytesN n.toNat (un i))) (bad|| !fI n i)):=by
 have Al:=fun(fits:Bool) hn=>Qz g v l bad n (un i) fits w h hn (VV i) hl;rw[←X2 i] at Al;rcases(by omega:n<1∨8<n∨(1≤n∧n≤8)) with h1|h1|⟨h1,h2⟩
 ·have hf:fI n i=aD:=by unfold fI;rw[dN];omega
  rw[hf];have hc:=Al aD (fun h=>by cases h);clear hf Al;go_enter func266,ntmps266;go_wp2_with fail;go_fit hc;rintro x w' hret;obtain rfl:=hret.1;go_wp2
  ((try simp only[Exit.inBlock,Exit.then]);refine dC (cT D _ _ _) D ?_)
  exact hret
 ·have hf:fI n i=aD:=by unfold fI;rw[dN];omega
  rw[hf];have hc:=Al aD (fun h=>by cases h);clear hf Al;go_enter func266,ntmps266;go_wp2_with fail;go_fit hc;rintro x w' hret;obtain rfl:=hret.1;go_wp2
  ((try simp only[Exit.inBlock,Exit.then]);refine dC (cT D _ _ _) D ?_)
  exact hret
 ·by_cases hq:i/2 ^(8*n-1).toNat=0
  ·have hf:fI n i=aF:=by rw[VW n i h1 h2,hq];rfl
   rw[hf];have hc:=Al aF (fun _=>by omega);clear hf Al;have M7:i/2 ^((8*n).toNat-1)=0:=by rw[←hq];congr 2;omega
   go_enter func266,ntmps266;go_wp2_with fail;go_fit hc;rintro x w' hret;obtain rfl:=hret.1;go_wp2
   ((try simp only[Exit.inBlock,Exit.then]);refine dC (cT D _ _ _) D ?_)
   exact hret
  ·obtain⟨b,hb⟩: ∃b,b=fI n i:=⟨_,D⟩;rw[←hb];have hc:aU bH 215 #[aK (aE ⟨g,0,J⟩),O Y n,O aQ (IntKind.u64.wrap i),aG (i/2 ^((8*n).toNat-1)==0||i/2 ^((8*n).toNat-1)== -1)] w (RetW w g v (iu bad b l (bytesN n.toNat (un i))) (bad|| !b)):=by have e:=VW n i h1 h2;rw[show(8*n-1).toNat=(8*n).toNat-1 by omega] at e;rw[←e,←hb];exact Al b (fun _=>by omega)
   clear Al hb;have M7: ¬i/2 ^((8*n).toNat-1)=0:=fun h=>hq (by rw[←h];congr 2;omega);go_enter func266,ntmps266;go_wp2_with fail;go_fit hc;rintro x w' hret;obtain rfl:=hret.1;go_wp2
   ((try simp only[Exit.inBlock,Exit.then]);refine dC (cT D _ _ _) D ?_)
   exact hret
theorem U2(g:Nat)(v:aT)(l:List UInt8)(bad:Bool)(w:aS)(h:Wtr w g v l bad)(hl:l.length≤1000000):
  aU bH 168 #[aK (aE ⟨g,0,J⟩)] w (RetB w l):=by
 cases bad with
 |true=>
  obtain rfl:=h.2.2 D;go_enter func168,ntmps168;go_wp2_with fail;go_fit(zP g _ v aF aF _ h.1);rintro x w1 ⟨rfl,rfl⟩;go_wp2;go_ret;exact⟨J,0,0,D,dF _ _ _ _,bP _ _⟩
 |false=>
  obtain⟨hrow,hown,hz⟩:=h;obtain⟨A0,c0,rfl⟩:=O4 hown;have hc0:=hrow.c0;have hc:=Fi A0 l.length c0 w.heap.size l w (oA hown) (bM _) (by omega);generalize l.length=k0 at*;go_enter func168,ntmps168;go_wp2_with fail;go_fit(zP g _ _ aF aD _ hrow);rintro x w1 ⟨rfl,rfl⟩;go_wp2_with fail;go_fit hc;rintro x w2 ⟨A2,c2,n2,rfl,Y2,hb⟩;go_wp2;go_ret;exact⟨A2,c2,n2,D,Y2,hb⟩
abbrev eS:=@Aw.of_below'
end
section
open Go.RowKit NumLaw
theorem bT{w:aS}{g:Nat}{o:Obj}(h:w.heap[g]?=aE o):g<w.heap.size:=by
 rcases iD g w.heap.size with h1|h1
 ·exact h1
 ·rw[iU h1] at h;cases h
end
section
open Go.RowKit
abbrev eX:=@List.getElem?_append_left
def d1(c:UInt8):Nat:=(c.toNat+208)% 256
def kL(a b:UInt8):Int × Bool:=(10*(d1 a:Int)+(d1 b:Int),decide (d1 a<10) && decide (d1 b<10))
def oG:List UInt8→List (Int × Bool)
 |a::b::l=>kL a b::oG l
 |_=> []
def sR(s:List UInt8):Option (Int × Int × Int):=
 match s with
 | [a,b,c,d,e,f]=>if(kL a b).2=aF∧(kL c d).2=aF∧(kL e f).2=aF then aE ((kL a b).1,(kL c d).1,(kL e f).1) else J
 |_=>J
def qH(s:List UInt8):Option Int:=
 match s with
 | []=>aE 0
 | [p,a]=>if p=46∧(kL a 48).2=aF then aE (kL a 48).1 else J
 | [p,a,b]=>if p=46∧(kL a b).2=aF then aE (kL a b).1 else J
 |_=>J
def Jl(b:Bool)(h m s c:Int):List aT:= [aG b,O Y h,O Y m,O Y s,O Y c]
def P2:List aT:=Jl aD 0 0 0 0
def Bi(h m x c:Int):Bool:=decide (0≤h∧h≤23) && decide (0≤m∧m≤59) && decide (0≤x∧x≤59) && decide (0≤c∧c≤99)
def mZ(s:ByteArray):List aT × Nat:=
 if s.size=0 then(P2,0) else
 match sR ((sb s).take 6),qH ((sb s).drop 6) with
 |some (h,m,x),aE c=>if Bi h m x c=aF then(Jl aF h m x c,0) else(P2,5)
 |_,_=>(P2,3)
def P1(b:Bool)(d m y:Int):List aT:= [aG b,O Y d,O Y m,O Y y]
def KO:List aT:=P1 aD 0 0 0
def aheadT:List Int:= [0,31,59,90,120,151,181,212,243,273,304,334,365]
def xO(m y:Int):Int:=aheadT.getD (m-1).toNat 0+(if 2<m then(if y % 4=0 then 1 else 0) else 0)
def zQ(m y:Int):Int:=if 1≤m∧m≤12∧2000≤y∧y≤2099 then xO (m+1) y-xO m y else 0
def rU(s:ByteArray):List aT × Nat:=
 if s.size=0 then(KO,0) else
 match sR (sb s) with
 |some (d,m,y)=>if 1≤d∧d≤zQ m (2000+y) then(P1 aF d m (2000+y),0) else(KO,5)
 |none=>(KO,3)
def yK:uX:=⟨1,2,0,0,99⟩
def zR:uX:=⟨1,3,2,0,99999⟩
def Zz:uX:=⟨1,6,1,-9999999,9999999⟩
def BR:uX:=⟨1,4,1,-99999,99999⟩
def Zv:uX:=⟨1,4,1,0,99999⟩
def ik:uX:=⟨1,4,0,0,1023⟩
def vX:uX:=⟨1,4,2,0,999999⟩
def vY:uX:=⟨1,3,2,0,36000⟩
def K6:uX:=⟨1,3,1,0,1800⟩
def BH:uX:=⟨1,3,0,1,255⟩
def S0:uX:=⟨1,2,0,0,90⟩
def Rk:uX:=⟨1,3,0,0,359⟩
def Kx(s:ByteArray):Option Nat:=match sb s with
 | [c]=>if Jd c=aF then aE (c.toNat-48) else J
 |_=>J
def kD(low top:Int)(st:kY):Int × kY:=
 match Kx (jA st).1 with
 |none=>(0,tP (jA st).2 3)
 |some n=>((n:Int),if(n:Int)<low∨top<(n:Int) then tP (jA st).2 5 else(jA st).2)
def qA(u:UInt8)(is:Bool)(st:kY):kY:=if sb (jA st).1≠ [u]∧(is=aF∨(jA st).1.size≠0) then tP (jA st).2 3 else(jA st).2
def qQ(st:kY):List aT × kY:=((mZ (jA st).1).1,tP (jA st).2 (mZ (jA st).1).2)
def uY(st:kY):List aT × kY:=((rU (jA st).1).1,tP (jA st).2 (rU (jA st).1).2)
def wJ(a b:UInt8)(st:kY):Bool × kY:=(sb (jA st).1== [a],if sb (jA st).1= [a]∨sb (jA st).1= [b] then(jA st).2 else tP (jA st).2 3)
def vO(st:kY):Jr × kY:=
 let n:=gT K6 st
 let t:=jA n.2
 if n.1.is≠(sb t.1== [69]||sb t.1== [87])∨(n.1.is=aD∧t.1.size≠0) then(n.1,tP t.2 3) else
 (if sb t.1= [87] then⟨n.1.is,-n.1.n⟩ else n.1,t.2)
def WH(c:UInt8):Bool:=decide (65≤c.toNat∧c.toNat≤90)
def Sk(s:List UInt8):Bool:=match s with
 | []=>aF
 | [c]=>WH c
 |_=>aD
def nZ(st:kY):kY:=if st.2= [] then st else if Sk (sb (jA st).1)=aF then(jA st).2 else tP (jA st).2 3
def M3:List aT:=tR Dt
def gg0:List aT:=P2++M3++M3++ [O Y 0]++M3++M3++M3++M3++M3++M3
def D7(l:List ByteArray):List aT × Nat:=
 let a:=qQ (0,l)
 let b:=nS aF a.2
 let c:=nS aD b.2
 let d:=kD 0 8 c.2
 let e:=gT yK d.2
 let f:=gT zR e.2
 let g:=gT Zz f.2
 let h:=qA 77 g.1.is g.2
 let i:=gT BR h
 let j:=qA 77 i.1.is i.2
 let k:=gT Zv j
 let m:=gT ik k.2
 (a.1++tR b.1++tR c.1++ [O Y d.1]++tR e.1++tR f.1++tR g.1++tR i.1++tR k.1++tR m.1,m.2.1)
def p9(l:List ByteArray):List aT × Nat:=if l.length=14 then(if(D7 l).2=0 then(D7 l).1 else gg0,(D7 l).2) else(gg0,3)
def rm0:List aT:=P2++ [aG aD]++M3++M3++M3++M3++M3++KO
def Dz(l:List ByteArray):List aT × Nat:=
 let a:=qQ (0,l)
 let b:=wJ 65 86 a.2
 let c:=nS aF b.2
 let d:=nS aD c.2
 let e:=gT vX d.2
 let f:=gT vY e.2
 let g:=uY f.2
 let h:=vO g.2
 let i:=nZ h.2
 (a.1++ [aG b.1]++tR c.1++tR d.1++tR e.1++tR f.1++tR h.1++g.1,i.1)
def zW(l:List ByteArray):List aT × Nat:=if l.length=11∨l.length=12 then(if(Dz l).2=0 then(Dz l).1 else rm0,(Dz l).2) else(rm0,3)
def wI:Nat→kY→List Int × kY
 |0,st=>([],st)
 |n+1,st=>(if(gT BH st).1.is=aF then(gT BH st).1.n::(wI n (gT BH st).2).1 else(wI n (gT BH st).2).1,(wI n (gT BH st).2).2)
structure N5 where
 auto:Bool
 fix:Int
 ids:List Int
 dops:List aT
def gs0:N5:=⟨aD,0,[],M3++M3++M3⟩
def Gw(l:List ByteArray):N5 × Nat:=
 let a:=wJ 65 77 (0,l)
 let b:=kD 1 3 a.2
 let c:=wI 12 b.2
 let d:=gT zR c.2
 let e:=gT zR d.2
 let f:=gT zR e.2
 (⟨a.1,b.1,c.1,tR d.1++tR e.1++tR f.1⟩,f.2.1)
def zL(l:List ByteArray):N5 × Nat:=if l.length=17 then(if(Gw l).2=0 then(Gw l).1 else gs0,(Gw l).2) else(gs0,3)
def vt0:List aT:=M3++M3++M3++M3
def pD(c:uX)(u:UInt8)(st:kY):Jr × kY:=((gT c st).1,qA u (gT c st).1.is (gT c st).2)
def Gv(l:List ByteArray):List aT × Nat:=
 let a:=pD vY 84 (0,l)
 let b:=pD vY 77 a.2
 let c:=pD vX 78 b.2
 let d:=pD vX 75 c.2
 let e:=nZ d.2
 (tR a.1++tR b.1++tR c.1++tR d.1,e.1)
def zV(l:List ByteArray):List aT × Nat:=if l.length=8∨l.length=9 then(if(Gv l).2=0 then(Gv l).1 else vt0,(Gv l).2) else(vt0,3)
def Fg(st:kY):List aT × kY:=
 let a:=gT BH st
 let b:=gT S0 a.2
 let c:=gT Rk b.2
 let d:=gT yK c.2
 (tR a.1++tR b.1++tR c.1++tR d.1,d.2)
def lM:Nat→kY→List (List aT) × kY
 |0,st=>([],st)
 |n+1,st=>if st.2= [] then([],st) else((Fg st).1::(lM n (Fg st).2).1,(lM n (Fg st).2).2)
structure Oe where
 total:Int
 no:Int
 seen:Int
 l:List (List aT)
def cb:Oe:=⟨0,0,0,[]⟩
def K7(l:List ByteArray):Oe × Nat:=
 let a:=kD 1 9 (0,l)
 let b:=kD 1 a.1 a.2
 let c:=gT yK b.2
 let d:=if c.1.is=aD∧c.1.n=0 then tP c.2 3 else c.2
 let e:=lM 4 d
 (⟨a.1,b.1,c.1.n,e.1⟩,e.2.1)
def xR(l:List ByteArray):Oe × Nat:=if 3≤l.length∧(l.length-3)% 4=0∧(l.length-3)/4≤4 then(if(K7 l).2=0 then(K7 l).1 else cb,(K7 l).2) else(cb,3)
structure En where
 k:Nat
 tk:ByteArray
 gga:List aT
 rmc:List aT
 gsa:N5
 vtg:List aT
 gsv:Oe
def nm0:En:=⟨0,⟨#[]⟩,gg0,rm0,gs0,vt0,cb⟩
structure Cz where
 err:Nat
 size:Nat
 tk:ByteArray
 ty:ByteArray
 f:List ByteArray
def yT(ty:ByteArray):Nat:=
 if sb ty= [71,71,65] then 1 else if sb ty= [82,77,67] then 2 else if sb ty= [71,83,65] then 3 else if sb ty= [86,84,71] then 4 else if sb ty= [71,83,86] then 5 else 0
def vQ(s:Cz):Nat:=
 if yT s.ty=1 then(p9 s.f).2 else if yT s.ty=2 then(zW s.f).2 else if yT s.ty=3 then(zL s.f).2 else if yT s.ty=4 then(zV s.f).2 else if yT s.ty=5 then(xR s.f).2 else 6
def Ai(s:Cz):En:=
 if yT s.ty=1 then { nm0 with k:=1,tk:=s.tk,gga:=(p9 s.f).1 } else
 if yT s.ty=2 then { nm0 with k:=2,tk:=s.tk,rmc:=(zW s.f).1 } else
 if yT s.ty=3 then { nm0 with k:=3,tk:=s.tk,gsa:=(zL s.f).1 } else
 if yT s.ty=4 then { nm0 with k:=4,tk:=s.tk,vtg:=(zV s.f).1 } else
 { nm0 with k:=5,tk:=s.tk,gsv:=(xR s.f).1 }
def o7(s:Cz):En:=if vQ s=0 then Ai s else nm0
def Ni(c:UInt8):Bool:=decide (32≤c.toNat∧c.toNat≤126) && !(c==33||c==36||c==42||c==92||c==94||c==126)
def jW:Nat→List UInt8→Nat × Nat
 |0,_=>(7,0)
 |_+1,[]=>(2,0)
 |f+1,c::l=>if c=13 then(0,0) else if c≠42∧Ni c=aD then(3,0) else((jW f l).1,(jW f l).2+1)
def Fo(c:UInt8):Bool:=decide (65≤c.toNat∧c.toNat≤90)||decide (48≤c.toNat∧c.toNat≤57)
def Gx(c:UInt8):Option Nat:=
 if 48≤c.toNat∧c.toNat≤57 then aE (c.toNat-48) else if 65≤c.toNat∧c.toNat≤70 then aE (c.toNat-55) else if 97≤c.toNat∧c.toNat≤102 then aE (c.toNat-87) else J
def sS(l:List UInt8):Option Nat:=match l with
 | [a,b]=>match Gx a,Gx b with
  |some x,aE y=>aE (16*x+y)
  |_,_=>J
 |_=>J
def I0(l:List UInt8):Nat:=l.foldl (fun c x=>c ^^^ x.toNat) 0
def yG(l:List UInt8):Bool:=
 decide (8≤l.length) &&(l.findIdx (· ==42)==l.length-3) &&(l.take 5).all Fo &&(sS (l.drop (l.length-2))).isSome &&(l.length==8||l[5]?==aE 44)
def Rx(l:List UInt8):Bool:=sS (l.drop (l.length-2))==aE (I0 (l.take (l.length-3)))
def vN:List UInt8→List UInt8→List (List UInt8)
 |acc,[]=> [acc]
 |acc,c::l=>if c=44 then acc::vN [] l else vN (acc++ [c]) l
def K9(l:List UInt8):ByteArray:=⟨l.toArray⟩
def Bo(e:Nat):Cz:=⟨e,0,⟨#[]⟩,⟨#[]⟩,[]⟩
def mT(t:List UInt8):Cz:=
 if t= [] then Bo 2 else if t.head?≠aE 36 then Bo 3 else
 if(jW 80 (t.drop 1)).1≠0 then Bo (jW 80 (t.drop 1)).1 else
 if t.length<(jW 80 (t.drop 1)).2+3 then Bo 2 else
 if t[(jW 80 (t.drop 1)).2+2]?≠aE 10∨yG ((t.drop 1).take (jW 80 (t.drop 1)).2)=aD then Bo 3 else
 if Rx ((t.drop 1).take (jW 80 (t.drop 1)).2)=aD then Bo 4 else
 ⟨0,(jW 80 (t.drop 1)).2+3,K9 (((t.drop 1).take (jW 80 (t.drop 1)).2).take 2),K9 ((((t.drop 1).take (jW 80 (t.drop 1)).2).take 5).drop 2),
  if(jW 80 (t.drop 1)).2=8 then [] else(vN [] ((((t.drop 1).take (jW 80 (t.drop 1)).2).take ((jW 80 (t.drop 1)).2-3)).drop 6)).map K9⟩
theorem Mg: ∀(f:Nat) (l m:List UInt8),(jW f l).1≠2→jW f (l++m)=jW f l
 |0,l,m,_=>rfl
 |f+1,[],m,h=>absurd D h
 |f+1,c::l,m,h=>by
  unfold jW at h ⊢;simp only[List.cons_append];split
  ·rfl
  ·rename_i h13;rw[bX h13] at h;split
   ·rfl
   ·rename_i Gb;rw[bX Gb] at h;rw[Mg f l m h]
theorem Jy: ∀(f:Nat) (l:List UInt8),(jW f l).1=0→(jW f l).2<l.length
 |0,l,h=>by simp[jW] at h
 |f+1,[],h=>by simp[jW] at h
 |f+1,c::l,h=>by
  unfold jW at h ⊢;split
  ·simp
  ·rename_i h13;rw[bX h13] at h;split
   ·rename_i Gb;rw[if_pos Gb] at h;simp at h
   ·rename_i Gb;rw[bX Gb] at h;have:=Jy f l h;simp only[dM];omega
theorem V1(t m:List UInt8)(h:(mT t).err≠2):mT (t++m)=mT t:=by
 unfold mT at h;by_cases h0:t= []
 ·rw[if_pos h0] at h;exact absurd D h
 ·rw[bX h0] at h;have qb:t++m≠ []:=fun e=>h0 (List.append_eq_nil_iff.1 e).1;have hh:(t++m).head?=t.head?:=by cases t with|nil=>exact absurd D h0|cons c l=>rfl
  have hd:(t++m).drop 1=t.drop 1++m:=by cases t with|nil=>exact absurd D h0|cons c l=>rfl
  unfold mT;rw[bX h0,bX qb,hh,hd];by_cases h1:t.head?≠aE 36
  ·rw[if_pos h1,if_pos h1]
  ·rw[bX h1] at h ⊢;rw[bX h1];by_cases h2:(jW 80 (t.drop 1)).1=2
   ·rw[if_pos (by rw[h2];decide),h2] at h;exact absurd D h
   ·rw[Mg 80 _ m h2];by_cases h3:(jW 80 (t.drop 1)).1≠0
    ·rw[if_pos h3,if_pos h3]
    ·rw[bX h3] at h ⊢;rw[bX h3];have fF:=Jy 80 (t.drop 1) (Decidable.not_not.1 h3);by_cases h4:t.length<(jW 80 (t.drop 1)).2+3
     ·rw[if_pos h4] at h;exact absurd D h
     ·rw[bX h4,bX (by rw[List.length_append];omega)];rw[eX (by omega),List.take_append_of_le_length (by omega)]
theorem IA(t:List UInt8):(mT t).size≤t.length:=by
 unfold mT
 repeat' split
 all_goals first|exact fT _|(simp only;omega)
theorem Mb(t:List UInt8):(mT t).err≠0→(mT t).size=0:=by
 unfold mT
 repeat' split
 all_goals first|(intro _;rfl)|(intro h;exact absurd D h)
theorem Nq{P:aZ}{n l:Nat}{ops:Array bA}{Q:Exit→Act→aS→Prop}(hQ: ¬LetsOut Q): ∀(L:List bA),(∀o∈L,∀c,o.op≠ .defer c)→∀(a:Act) (w:aS),wpList P ops Q L a w→wpListIn (Fence.wide.inRound l) n P ops Q L a w
 | [],_,_,_,h=>h
 |o::r,hd,a,w,h=>by
  have ih:=Nq (P:=P) (ops:=ops) (n:=n) (l:=l) hQ r (fun o' ho=>hd o' (List.mem_cons_of_mem _ ho));unfold wpList at h;unfold wpListIn;split
  ·rename_i hw;rw[if_pos hw] at h;rcases h with h|h
   ·exact Oper.wpIn_mono (fun a' w' h'=>ih a' w' h') (Qp (hd o List.mem_cons_self) h)
   ·exact absurd h.2 hQ
  ·rename_i hw;rw[bX hw] at h;exact⟨fun f _=>trivial,ih _ _ h⟩
theorem Wn(t:aY){P:aZ}{F:Fence}{n:Nat}{w:aS}{ops:Array bA}{rest:List bA}{a:Act}{Q:Exit→Act→aS→Prop}{d:Option Tmp}{x:Operand}{ty:aY}{pos:String}{af:Array Edge}{g:Option (Nat × Bool)}
  (h:Stop (wpListIn F n P ops Q (⟨d,.load t x,ty,pos,af,g⟩::rest) a w)):wpListIn F n P ops Q (⟨d,.load t x,ty,pos,af,g⟩::rest) a w:=h
theorem oR{P:aZ}{fn:Func}{p q:Tmp}{t1 t2:aY}(h:fn.results= #[.cell p t1,.cell q t2])(tmps:Array aT)(w:aS)(a b:aW)(u v:aT)(d1 d2:TypeDesc)
  (hp:tmps.getD p undef=aK (aE a)) (hq:tmps.getD q undef=aK (aE b)) (h1:P.underlying t1=aE d1) (n1:(match d1 with| .struct _=>aD| .array _ _=>aD|_=>aF)=aF)
  (h2:P.underlying t2=aE d2) (n2:(match d2 with| .struct _=>aD| .array _ _=>aD|_=>aF)=aF) (ha:w.cell? a=aE u) (hb:w.cell? b=aE v):
  (results fn tmps).run P w= .ok (aN #[u,v]) w:=by
 have yC:tmps[p]?.getD undef=aK (aE a):=by simpa using hp
 have NZ:tmps[q]?.getD undef=aK (aE b):=by simpa using hq
 have g1:(isAgg t1).run P w= .ok aD w:=by unfold isAgg;rw[eB,dE h1 w];cases d1<;>simp at n1<;>rfl
 have g2:(isAgg t2).run P w= .ok aD w:=by unfold isAgg;rw[eB,dE h2 w];cases d2<;>simp at n2<;>rfl
 have l1:(loadVar t1 a).run P w= .ok u w:=by unfold loadVar;rw[eB,g1];simp[load,Sem.run,ha]
 have l2:(loadVar t2 b).run P w= .ok v w:=by unfold loadVar;rw[eB,g2];simp[load,Sem.run,hb]
 simp[results,h,yC,NZ,asAddr,l1,l2]
end
end Go.Proofs.YtfoabhdppkjmbaaGreat
