import Derived.Test.YtfoabhdppkjmbaaGreatKZ4
import Derived.Lib.Bytealg
import Derived.Shelf.Strconv.Itoa0
import Derived.Shelf.Spec.BitsCarry
import Derived.WalkMore
import Derived.Deep.LoopGhost
import Derived.Laws.CopyOwn
import Derived.Deep.OwnRows
import Derived.Laws.StructEq
import Derived.Stop.BytesEq
import Derived.Laws.Tables
set_option linter.unusedSimpArgs false
set_option linter.unusedVariables false
set_option maxHeartbeats 4000000
set_option maxRecDepth 10000
namespace Go.Proofs.YtfoabhdppkjmbaaGreat
open Bool renaming false→aD,true→aF
open Go renaming Addr→aW,Calls→aU,Ending→aX,Program→aZ,TypeId→aY,Value→aT,World→aS,execOp→bD,maxLen→bB,typeInfo→bF,yielded→bC
open Go.Ending renaming returned→aJ
open Go.IntKind renaming i64→Y,u64→aQ,u8→aP
open Go.Obj renaming cells→aI
open Go.Proofs.Tryz renaming prog→bH
open Go.RowKit renaming Below→aV,intOf→bE
open Go.Value renaming agg→aM,bool→aG,int→O,pointer→aK,slice→aL,tuple→aN
open Option renaming none→J,some→aE
open Go.Proofs.Tryz
namespace NumLaw
end NumLaw
section
open Go.RowKit
theorem YI{U:Nat→Prop}{w w':aS}{B size n c:Nat}{A:Option aW}{xs:List aT}(h:Rd w B size A n c xs)(hB:B≤w.heap.size)(ha:Aw U w w')(hf:0<n→∀p,A=aE p→¬U p.block):Rd w' w'.heap.size size A n c xs:=
 ⟨h.len,h.le,h.max,fun hn=>by
  obtain⟨ad,e,hg,hr⟩:=h.at_ hn;have hbw:ad.block<w.heap.size:=cI hg hB;refine⟨ad,e,cI hbw ha.size,fun j u hu=> ?_⟩;have h1:=hr j u hu;have h2:=ha.block ad.block hbw (hf hn _ e);unfold World.cell? at h1 ⊢;rw[lL] at h1 ⊢;rw[h2]
  exact h1⟩
theorem tV{U V:Nat→Prop}{a A' B':aS}(h:Aw U a A')(hv:Aw V A' B')(hu: ∀k,k<a.heap.size→V k→U k):Aw U a B':=
 ⟨hv.os.trans h.os,hv.tape.trans h.tape,hv.output.trans h.output,bU h.size hv.size,fun k hk hn=>(hv.block k (cI hk h.size) (fun h=>hn (hu k hk h))).trans (h.block k hk hn)⟩
theorem gJ{S:Nat}{a A' B':aS}{U:Nat→Prop}(h:aV S a A')(ha:Aw U A' B')(hu: ∀k,U k→S≤k)(hS:S≤A'.heap.size):aV S a B':=
 ⟨ha.os.trans h.os,ha.tape.trans h.tape,ha.output.trans h.output,bU h.size ha.size,fun k hk=>(ha.block k (by omega) (fun hU=>by have:=hu k hU;omega)).trans (h.block k hk)⟩
theorem gO{w:aS}(q i:Nat)(x:aT):Aw (fun k=>k=q) w (w.setCell ⟨q,i,J⟩ x):=(cY (fun k=>k=q) w).set (p:=⟨q,i,J⟩) x D
abbrev dG:=@List.getElem?_append_right
abbrev kG:=@List.flatten_cons
theorem Dm{size:Nat} : ∀(ls:List (List aT)) (k j:Nat) (r:List aT),(∀x∈ls,x.length=size)→ls[k]?=aE r→j<size→ls.flatten[k*size+j]?=r[j]?
 | [],_,_,_,_,h,_=>by simp at h
 |g::l,0,j,r,ha,h,hj=>by simp at h;subst h;have:=ha g List.mem_cons_self;simp only[kG,Nat.zero_mul,Nat.zero_add];rw[List.getElem?_append_left (by omega)]
 |g::l,k+1,j,r,ha,h,hj=>by
  have ih:=Dm l k j r (fun x hx=>ha x (List.mem_cons_of_mem _ hx)) (by simpa using h) hj;have e:=ha g List.mem_cons_self;have e2:(k+1)*size+j=size+(k*size+j):=by rw[Nat.succ_mul];omega
  rw[←ih,kG,dG (by rw[e2,e];omega),e2,e];congr 1;omega
theorem xE{size:Nat} : ∀(ls:List (List aT)),(∀x∈ls,x.length=size)→ls.flatten.length=ls.length*size
 | [],_=>by simp
 |g::l,ha=>by have:=xE l (fun x hx=>ha x (List.mem_cons_of_mem _ hx));rw[kG,List.length_append,this,ha g List.mem_cons_self,List.length_cons,Nat.succ_mul];omega
def RdR(w:aS)(B size:Nat)(A:Option aW)(n c:Nat)(ls:List (List aT)):Prop:=
 ls.length=n∧(∀r∈ls,r.length=size)∧n≤c∧c≤bB∧(0<n→∃g off,A=aE ⟨g,off,J⟩∧g<B∧∀(k:Nat) (r:List aT),ls[k]?=aE r→w.rangeAt g (off+k*size) r)
section
variable {w w':World} {B B' size n c:Nat} {A:Option Addr} {ls:List (List Value)}
theorem RdR.none_(w:aS)(B size:Nat):RdR w B size J 0 0 []:=⟨D,by simp,bM _,fT _,fun h=>absurd h (pX _)⟩
theorem RdR.up(h:RdR w B size A n c ls)(hb:aV B w w'):RdR w' B size A n c ls:=
 ⟨h.1,h.2.1,h.2.2.1,h.2.2.2.1,fun hn=>by
  obtain⟨g,off,e,hg,hr⟩:=h.2.2.2.2 hn
  exact⟨g,off,e,hg,fun k r hk j v hv=>(hb.cell (p:=⟨g,off+k*size+j,J⟩) hg).trans (hr k r hk j v hv)⟩⟩
theorem RdR.more(h:RdR w B size A n c ls)(hB:B≤B'):RdR w B' size A n c ls:=
 ⟨h.1,h.2.1,h.2.2.1,h.2.2.2.1,fun hn=>by
  obtain⟨g,off,e,hg,hr⟩:=h.2.2.2.2 hn
  exact⟨g,off,e,by omega,hr⟩⟩
theorem RdR.nx(h:RdR w w.heap.size size A n c ls)(hb:aV w.heap.size w w'):RdR w' w'.heap.size size A n c ls:=(h.up hb).more hb.size
theorem RdR.at_(h:RdR w B size A n c ls){k:Nat}(hk:k<n): ∃g off r,A=aE ⟨g,off,J⟩∧g<B∧ls[k]?=aE r∧r.length=size∧w.rangeAt g (off+k*size) r:=by
 obtain⟨g,off,e,hg,hr⟩:=h.2.2.2.2 (by omega);have hl:k<ls.length:=by have:=h.1;omega
 exact⟨g,off,ls[k],e,hg,cF hl,h.2.1 _ (List.getElem_mem hl),hr k _ (cF hl)⟩
theorem RdR.own{base:Nat}{e:aY}(h:w.ownsRow base e size (aL A n c) n ls.flatten)(hl:ls.length=n)(ha: ∀r∈ls,r.length=size):RdR w w.heap.size size A n c ls:=by
 rcases h.2 with⟨hv,h0⟩|⟨g,cap,cur,hv,hg,hh,h1,h2,h3,h4⟩
 ·injection hv with e1 e2 e3;subst e1;subst e2;subst e3;exact⟨hl,ha,bM _,fT _,fun h=>absurd h (pX _)⟩
 ·have jI:=h.cells (g:=g) (by rw[hv];rfl);injection hv with e1 e2 e3;subst e1;subst e3;refine⟨hl,ha,h1,h2,fun _=>⟨g,0,D,?_,fun k r hk j v hv=> ?_⟩⟩
  ·rcases iD g w.heap.size with fF|zB
   ·exact fF
   ·rw[iU zB] at hh;cases hh
  ·have hj:j<r.length:=(List.getElem?_eq_some_iff.1 hv).1;have hr:=ha r (List.mem_of_getElem? hk);have:=jI (k*size+j) v (by rw[Dm ls k j r ha hk (by omega)];exact hv)
   rwa[show(⟨g,0,J⟩:aW).add (k*size+j)=⟨g,0+k*size+j,J⟩ by unfold Addr.add;split<;>simp_all] at this
theorem RdR.rd(h:RdR w B size A n c ls)(hs:0<size):Rd w B size A n c ls.flatten:=by
 refine⟨by rw[xE ls h.2.1,h.1],h.2.2.1,h.2.2.2.1,fun hn=> ?_⟩;obtain⟨g,off,e,hg,hr⟩:=h.2.2.2.2 hn;refine⟨_,e,hg,fun j u hu=> ?_⟩;have hj:j<ls.flatten.length:=(List.getElem?_eq_some_iff.1 hu).1;rw[xE ls h.2.1] at hj;have hk:j/size<ls.length:=(Nat.div_lt_iff_lt_mul hs).2 hj;have hdm:j=j/size*size+j % size:=by rw[Nat.mul_comm];exact(Nat.div_add_mod j size).symm
 have hx:ls[j/size]?=aE ls[j/size]:=cF hk;rw[hdm,Dm ls (j/size) (j % size) _ h.2.1 hx (Nat.mod_lt _ hs)] at hu;have:=hr (j/size) _ hx (j % size) u hu;have e2:(⟨g,off,J⟩:aW).add j=⟨g,off+j/size*size+j % size,J⟩:=by rw[Addr.add_mid];congr 1;omega
 rw[e2];exact this
theorem RdR.lit{e:aY}(w:aS)(ls:List (List aT))(cs:Array aT)(Co:cs=ls.flatten.toArray)(ha: ∀r∈ls,r.length=size)(hm:ls.length≤bB)(n:Nat)(hn:ls.length=n):RdR (w.alloc (aI cs e)) (w.heap.size+1) size (aE ⟨w.heap.size,0,J⟩) n n ls:=by
 subst Co;subst hn;refine⟨D,ha,bM _,hm,fun _=>⟨_,_,D,iO _,fun k r hk j v hv=> ?_⟩⟩;have hj:j<r.length:=(List.getElem?_eq_some_iff.1 hv).1;have hr:=ha r (List.mem_of_getElem? hk);rw[World.cell?,show(⟨w.heap.size,0+k*size+j,J⟩:aW).block=w.heap.size from D,bS w _];have:=Dm ls k j r ha hk (by omega);simp only[Nat.zero_add];simpa [this] using hv
end
abbrev kR:=@RdR.none_
abbrev pQ:=@RdR.more
abbrev sQ:=@RdR.lit
abbrev tX:=@RdR.up
abbrev yW:=@RdR.nx
abbrev yX:=@RdR.rd
abbrev tG:=@Nat.xor_lt_two_pow
theorem Oj(c:UInt8): ∀l:List UInt8,Lib.indexByte l c=if l.findIdx (· ==c)<l.length then((l.findIdx (· ==c):Nat):Int) else-1
 | []=>rfl
 |b::l=>by
  unfold Lib.indexByte;rw[List.findIdx_cons];cases hb:(b==c)
  ·simp only[Bool.false_eq_true,↓reduceIte,cond_false,dM];rw[Oj c l];by_cases h:l.findIdx (· ==c)<l.length
   ·rw[if_pos h,bX (by simp),if_pos (by omega)];omega
   ·rw[bX h,if_pos (by decide),bX (by omega)]
  ·simp
theorem Yt: ∀(l acc:List UInt8),¬l.findIdx (· ==44)<l.length→vN acc l= [acc++l]
 | [],acc,_=>by simp[vN]
 |c::l,acc,h=>by
  rw[List.findIdx_cons] at h;cases hb:(c==44)
  ·rw[hb] at h;simp only[cond_false,dM] at h;have hc: ¬c=44:=by simpa using hb
   unfold vN;rw[bX hc,Yt l _ (by omega)];simp
  ·rw[hb] at h;simp at h
theorem Xz: ∀(l acc:List UInt8),l.findIdx (· ==44)<l.length→vN acc l=(acc++l.take (l.findIdx (· ==44)))::vN [] (l.drop (l.findIdx (· ==44)+1))
 | [],acc,h=>by simp at h
 |c::l,acc,h=>by
  rw[List.findIdx_cons] at h ⊢;cases hb:(c==44)
  ·rw[hb] at h;simp only[cond_false,dM] at h ⊢;have hc: ¬c=44:=by simpa using hb
   have hu:vN acc (c::l)=vN (acc++ [c]) l:=by show(if c=44 then _ else _)=_;rw[bX hc]
   rw[hu,Xz l _ (by omega)];simp
  ·have hc:c=44:=by simpa using hb
   have hu:vN acc (c::l)=acc::vN [] l:=by show(if c=44 then _ else _)=_;rw[if_pos hc]
   rw[hu];simp
theorem Gf: ∀(f:Nat) (l:List UInt8),∀c∈l.take (jW f l).2,c.toNat<128
 |0,l=>by simp[jW]
 |f+1,[]=>by simp
 |f+1,c::l=>by
  unfold jW;split
  ·simp
  ·split
   ·simp
   ·rename_i h13 h;intro x hx;simp only[List.take_succ_cons,List.mem_cons] at hx;rcases hx with rfl|hx
    ·by_cases Gb:x=42
     ·rw[Gb];decide
     ·have hl:Ni x=aF:=by
       cases e:Ni x
       ·exact absurd ⟨Gb,e⟩ h
       ·rfl
      unfold Ni at hl;simp only[Bool.and_eq_true,decide_eq_true_eq] at hl;omega
    ·exact Gf f l x hx
theorem Ru: ∀(f:Nat) (l:List UInt8),(jW f l).2≤f
 |0,l=>by simp[jW]
 |f+1,[]=>by simp[jW]
 |f+1,c::l=>by
  have:=Ru f l;unfold jW;split
  ·simp
  ·split
   ·simp
   ·simp only;omega
theorem Zh(l:List UInt8)(c:UInt8):I0 (l++ [c])=I0 l ^^^ c.toNat:=by simp[I0]
theorem X1(l:List UInt8):I0 l<256:=by
 have h: ∀(l:List UInt8) (a:Nat),a<256→l.foldl (fun c x=>c ^^^ x.toNat) a<256:=by
  intro l
  induction l with
  |nil=>intro a h;exact h
  |cons c l ih=>intro a h;exact ih _ (tG (n:=8) h c.toNat_lt)
 exact h l 0 (by decide)
theorem Ye{c:UInt8}{n:Nat}(h:Gx c=aE n):n<16:=by
 unfold Gx at h;split at h
 ·injection h with h;omega
 ·split at h
  ·injection h with h;omega
  ·split at h
   ·injection h with h;omega
   ·cases h
theorem GW{l:List UInt8}(h:yG l=aF):8≤l.length∧l[l.length-3]?=aE 42∧(l.length=8∨l[5]?=aE 44):=by
 unfold yG at h;simp only[Bool.and_eq_true,decide_eq_true_eq,beq_iff_eq,Bool.or_eq_true] at h;obtain⟨⟨⟨⟨h8,hf⟩,hs⟩,hu⟩,hc⟩:=h;refine⟨h8,?_,hc⟩;have fF:l.findIdx (· ==42)<l.length:=by omega
 have:=List.findIdx_getElem (p:=(· ==(42:UInt8))) (w:=fF);rw[←hf,cF fF];simpa using this
end
section
open Go.RowKit Go.Shelf
theorem PD:Lays7.n25 bH ⟨fun _=>186,fun _=>151,fun x=>x⟩:= {
 mixed:=by kernel_rfl
 f25:=by kernel_rfl
 t22:=by kernel_rfl
 a22:=fun _=>by kernel_rfl
 z22:=fun _=>by kernel_rfl
 v22:=fun _=>by kernel_rfl
 i22:=by kernel_rfl }
theorem Lt(x y:Nat)(w:aS):(callFunc 186 #[O aQ x,O aQ y,O aQ 0]).run bH w=
   .ok (.value (aN #[O aQ (((x+y)% 18446744073709551616:Nat):Int),O aQ (((x+y)/18446744073709551616:Nat):Int)])) w:=
 Any7.bits_Add64 PD x y 0 (by omega) w
end
section
open Go.RowKit NumLaw
abbrev fO:=@underlying5
abbrev mG:=@List.foldl_append
def oq(s:Nat × Nat)(x:UInt8):Nat × Nat:=((s.1+x.toNat)% 256,(s.2+(s.1+x.toNat)% 256)% 256)
def F4(s:Nat × Nat)(l:List UInt8):Nat × Nat:=l.foldl oq s
theorem IG(s:Nat × Nat)(l:List UInt8)(x:UInt8):F4 s (l++ [x])=oq (F4 s l) x:=by unfold F4;rw[mG];rfl
theorem ZR(s:Nat × Nat)(l:List UInt8)(h:s.1<256∧s.2<256):(F4 s l).1<256∧(F4 s l).2<256:=by
 unfold F4
 induction l generalizing s with
 |nil=>exact h
 |cons x l ih=>exact ih _ ⟨Nat.mod_lt _ (by omega),Nat.mod_lt _ (by omega)⟩
theorem QB(n:Nat):IntKind.u8.wrap (n:Int)=((n % 256:Nat):Int):=by
 simp[IntKind.wrap,IntKind.bits,IntKind.signed]
theorem KC(a b:Nat):IntKind.u8.wrap ((a:Int)+(b:Int))=(((a+b)% 256:Nat):Int):=by
 rw[←QB];congr 1
def flB(l:List UInt8):List UInt8:= [UInt8.ofNat (F4 (0,0) l).1,UInt8.ofNat (F4 (0,0) l).2]
def Cn(l:List UInt8):List UInt8:=l++flB l
def I1(w:aS)(g a b:Nat):Prop:=w.heap[g]?=aE (aI #[O aP (a:Int),O aP (b:Int)] 467)
theorem BV(g a b:Nat)(x:UInt8)(w:aS)(h:I1 w g a b):
  aU bH 309 #[aK (aE ⟨g,0,J⟩),O aP (x.toNat:Int)] w fun e w'=>e=aJ (aN #[])∧I1 w' g (oq (a,b) x).1 (oq (a,b) x).2∧Aw (fun k=>k=g) w w':=by
 have e1:=KC a x.toNat;have e2:=KC b ((a+x.toNat)% 256);have E:oq (a,b) x=((a+x.toNat)% 256,(b+(a+x.toNat)% 256)% 256):=D;rw[E];clear E;generalize(b+(a+x.toNat)% 256)% 256=b1 at*;generalize(a+x.toNat)% 256=a1 at*;have c0:w.cell? ⟨g,0,J⟩=aE (O aP (a:Int)):=bL h D;have f0:=bZ (i:=0) h;have h1:=cN (i:=0) h (O aP (a1:Int));go_enter func309,ntmps309;go_wp2_with fail;have hA:Aw (fun k=>k=g) w (w.setCell ⟨g,0,J⟩ (O aP (a1:Int))).drew:=(((cY (fun k=>k=g) w).set (p:=⟨g,0,J⟩) _ D)).drew;replace h1:(w.setCell ⟨g,0,J⟩ (O aP (a1:Int))).drew.heap[g]?=_:=h1;refine cQ (fun _=>True) aF [15,19] (by kernel_rfl) (by kernel_rfl) cM ?_;generalize(w.setCell ⟨g,0,J⟩ (O aP (a1:Int))).drew=w1 at*;clear c0 f0 h;have c0:w1.cell? ⟨g,0,J⟩=aE (O aP (a1:Int)):=bL h1 D;have c1:w1.cell? ⟨g,1,J⟩=aE (O aP (b:Int)):=bL h1 D;have f1:=bZ (i:=1) h1;have h2:=cN (i:=1) h1 (O aP (b1:Int));repeat(first|refine fQ ?_|refine fP ?_)
 refine eP fO D c1 D (by rfl) (by rfl) ?_;refine PT ?_;repeat(first|refine fQ ?_|refine fP ?_)
 refine eP fO D c0 D (by rfl) (by rfl) ?_;refine PT ?_;repeat(first|refine fQ ?_|refine fP ?_)
 refine qB ?_;go_wp2;refine cC cM (fun h=>by cases h) ?_;refine PT ?_;refine cV ?_;go_wp2
 ((try simp only[Exit.inBlock,Exit.then]);refine dC (cT D _ _ _) D ?_)
 exact⟨D,h2,hA.set (p:=⟨g,1,J⟩) _ D⟩
theorem Ub(a b:Nat)(A:Option aW)(n c B:Nat)(l:List UInt8)(w:aS)(h:Rd w B 1 A n c (bv l))(hB:B≤w.heap.size)(hn:n≤70368744177664):
  aU bH 264 #[O aP (a:Int),O aP (b:Int),aL A n c] w fun e w'=>e=aJ (aN #[O aP ((F4 (a,b) l).1:Int),O aP ((F4 (a,b) l).2:Int)])∧aV w.heap.size w w':=by
 have Hl:=bK h.blen;have hlen:=h.le;have hmx:=h.max;unfold bB at hmx;obtain⟨a3,ea⟩: ∃a3,a3=(F4 (a,b) l).1:=⟨_,D⟩;obtain⟨b3,eb⟩: ∃b3,b3=(F4 (a,b) l).2:=⟨_,D⟩;rw[←ea,←eb];have Ea:=bK ea;have Eb:=bK eb;clear ea eb;go_enter func264,ntmps264;go_wp2;have hs:I1 (w.alloc (aI #[O aP (a:Int),O aP (b:Int)] 467)) w.heap.size a b:=bS w _;have hb:aV w.heap.size w (w.alloc (aI #[O aP (a:Int),O aP (b:Int)] 467)):=(bP _ _).alloc (bM _) _;generalize(w.alloc (aI #[O aP (a:Int),O aP (b:Int)] 467))=w1 at*;go_loopw [16] (fun i wr=> ∃(k:Nat),k≤n∧i=O Y k∧I1 wr w.heap.size (F4 (a,b) (l.take k)).1 (F4 (a,b) (l.take k)).2∧aV w.heap.size w wr) (fun i _=>n-(bE i).toNat);case atStart=>exact⟨0,by omega,D,hs,hb⟩
 case round=>
  clear hs hb w1;obtain⟨k,hk,rfl,hs,hb⟩:=hrel;by_cases fF:k<n
  ·obtain⟨ad,x,rfl,hx,jI⟩:=(h.up (hb.mono hB)).byte fF;have Hx:=bK (IG (a,b) (l.take k) x);rw[←fD hx] at Hx;go_wp2_with fail;go_fit(BV w.heap.size _ _ x _ hs);rintro e w2 ⟨rfl,hs2,ha2⟩;rw[show((F4 (a,b) (l.take k)).1,(F4 (a,b) (l.take k)).2)=F4 (a,b) (l.take k) from D,←Hx.out] at hs2;have hb2:aV w.heap.size w w2:=⟨ha2.os.trans hb.os,ha2.tape.trans hb.tape,ha2.output.trans hb.output,bU hb.size ha2.size,fun j hj=>(ha2.block j (cI hj hb.size) (by omega)).trans (hb.block j hj)⟩;clear Hx hs;go_wp2;go_roundw;case rel=>exact⟨k+1,by omega,by go_num,hs2,hb2⟩
   case measure=>simp[bE];omega
  ·obtain rfl:k=n:=by omega
   have ht:l.take k=l:=List.take_of_length_le (by rw[Hl.out];omega);rw[ht,←Ea.out,←Eb.out] at hs;go_wp2_with fail;refine cQ (fun _=>True) aF [24,26] (by kernel_rfl) (by kernel_rfl) cM ?_;replace hs:I1 wr.drew w.heap.size a3 b3:=hs;replace hb:=hb.drew;generalize wr.drew=w3 at*;have c0:w3.cell? ⟨w.heap.size,0,J⟩=aE (O aP (a3:Int)):=bL hs D;have c1:w3.cell? ⟨w.heap.size,1,J⟩=aE (O aP (b3:Int)):=bL hs D;repeat(first|refine fQ ?_|refine fP ?_)
   refine eP fO D c0 D (by rfl) (by rfl) ?_;refine PT ?_;repeat(first|refine fQ ?_|refine fP ?_)
   refine eP fO D c1 D (by rfl) (by rfl) ?_;refine PT ?_;repeat(first|refine fQ ?_|refine fP ?_)
   refine cV ?_;go_wp2;go_ret2;exact⟨D,hb⟩
theorem IH(A:Option aW)(n c B:Nat)(l:List UInt8)(w:aS)(h:Rd w B 1 A n c (bv l))(hB:B≤w.heap.size)(hn:n≤70368744177664):
  aU bH 220 #[aL A n c] w fun e w'=>e=aJ (aN #[O aP ((F4 (0,0) l).1:Int),O aP ((F4 (0,0) l).2:Int)])∧aV w.heap.size w w':=by
 have hc:=Ub 0 0 A n c B l w h hB hn;generalize(F4 (0,0) l).1=a2 at*;generalize(F4 (0,0) l).2=b2 at*;go_enter func220,ntmps220;go_wp2_with fail;go_fit hc;rintro e w1 ⟨rfl,hb⟩;go_wp2;go_ret2;exact⟨D,hb⟩
abbrev gA:=@List.append_assoc
def xD(l:List UInt8):Option (List UInt8):=if l.length<2 then J else if Cn (l.take (l.length-2))=l then aE (l.take (l.length-2)) else J
def zr(w:aS)(o:Option (List UInt8))(e:aX)(w':aS):Prop:=
 match o with
 |none=>e=aJ (aN #[aL J 0 0,aG aD])∧aV w.heap.size w w'
 |some l=> ∃A c n,e=aJ (aN #[aL A n c,aG aF])∧w'.ownsRow w.heap.size 5 1 (aL A n c) n (bv l)∧aV w.heap.size w w'
theorem CJ{l:List UInt8}{k:Nat}{p q:UInt8}(hl:l.length=k+2)(hp:l[k]?=aE p)(hq:l[k+1]?=aE q):xD l=if(F4 (0,0) (l.take k)).1=p.toNat∧(F4 (0,0) (l.take k)).2=q.toNat then aE (l.take k) else J:=by
 unfold xD;rw[bX (by omega),show l.length-2=k by omega]
 have e:l=l.take k++ [p,q]:=by
  have h1:=fD hp;have h2:=fD hq;rw[List.take_of_length_le (by omega)] at h2;have h3:l=(l.take k++ [p])++ [q]:=by rw[←h1];exact h2
  rwa[gA] at h3
 have hb:=ZR (0,0) (l.take k) ⟨by decide,by decide⟩
 have hiff:Cn (l.take k)=l↔(F4 (0,0) (l.take k)).1=p.toNat∧(F4 (0,0) (l.take k)).2=q.toNat:=by
  have e2:(Cn (l.take k)=l)=(Cn (l.take k)=l.take k++ [p,q]):=by rw[←e]
  rw[e2];unfold Cn flB;rw[List.append_cancel_left_eq];simp only[List.cons.injEq,and_true];constructor
  ·rintro⟨h1,h2⟩;rw[←h1,←h2,iT,iT];omega
  ·rintro⟨h1,h2⟩;rw[h1,h2];simp
 by_cases hc:Cn (l.take k)=l
 ·rw[bY hc,bY (hiff.1 hc)]
 ·rw[bX hc,bX (fun h=>hc (hiff.2 h))]
theorem Zg:Tryz.prog.stoodInHeld 467=aD:=by kernel_rfl
theorem U0:Tryz.prog.eqGuardType Tryz.prog.depth 467=aD:=by kernel_rfl
theorem FY(a b c d:Int)(w:aS):(binOp .neq 467 (aM #[O aP a,O aP b]) (aM #[O aP c,O aP d])).run bH w= .ok (aG (!(a==c && b==d))) w:=by
 rw[run_neq_struct,run_equalIn_agg w 9999 _ _ _ (by simp only[Program.fieldsOf,underlying467]) Zg];simp[Program.fieldsOf,underlying467,Op.eqFields,part,run_equalIn_int w _ _ _ _ _ _ fO];by_cases h1:a=c<;>by_cases h2:b=d<;>simp[h1,h2]
theorem Vc(A:Option aW)(n c B:Nat)(l:List UInt8)(w:aS)(h:Rd w B 1 A n c (bv l))(hB:B≤w.heap.size)(hn:n≤1000000000):
  aU bH 229 #[aL A n c] w (zr w (xD l)):=by
 have oJ:=h.blen;have hle:=h.le;by_cases h2:n<2
 ·rw[show xD l=J by unfold xD;rw[bY (by omega)]];clear oJ;go_enter func229,ntmps229;go_wp2;go_ret2;exact⟨D,bP _ _⟩
 ·obtain⟨k,rfl⟩: ∃k,n=k+2:=⟨n-2,by omega⟩;obtain⟨ad,p,rfl,hp,UI⟩:=h.byte (k:=k) (by omega);obtain⟨ad',q,e,hq,hcq⟩:=h.byte (k:=k+1) (by omega);injection e with e;subst e;have hbk:ad.block<B:=by obtain⟨ad',e',hb,_⟩:=h.at_ (by omega);injection e' with e';rw[e'];exact hb
  rw[CJ oJ hp hq];have J5:=fun w' h' G3=>IH (aE ad) k c B (l.take k) w' h' G3 (by omega);have hcl:=fun w' h' G3=>Fi (aE ad) k c B (l.take k) w' h' G3 (by omega);obtain⟨a3,ea⟩: ∃a3,a3=(F4 (0,0) (l.take k)).1:=⟨_,D⟩;obtain⟨b3,eb⟩: ∃b3,b3=(F4 (0,0) (l.take k)).2:=⟨_,D⟩;have hcut:=h.btake (k:=k) (by omega);rw[←ea,←eb] at J5 ⊢;obtain⟨o,ho⟩: ∃o,o=(if a3=p.toNat∧b3=q.toNat then aE (l.take k) else J):=⟨_,D⟩;rw[←ho];have HO:=bK ho;clear ho;have Ho:=bK J5;have Hc:=bK hcl;obtain⟨i0,hi⟩:=eW nP;have yU:=fun w=>tL (P:=bH) dH hi.1 (aE ad) (k+2) c k (by omega) w;clear J5 ea eb hp hq oJ hcl hi;go_enter func229,ntmps229;go_wp2_with fail;have hb1:aV w.heap.size w (w.alloc (aI #[O aP 0,O aP 0] 467)):=(bP _ _).alloc (bM _) _;have hs1:=bS w (aI #[O aP 0,O aP 0] 467);go_fit(Ho.out _ (hcut.up (hb1.mono hB)) (by simp;omega));rintro e w2 ⟨rfl,hb12⟩;have Lm:=bT hs1;have hs2:=bV hs1 hb12 Lm;have hb2:=eI hb1 hb12;clear hs1 hb1 hb12;have c0:w2.cell? ⟨w.heap.size,0,J⟩=aE (O aP 0):=bL hs2 D;have f0:=bZ (i:=0) hs2;have Ta:=cN (i:=0) hs2 (O aP (a3:Int));have c1:(w2.setCell ⟨w.heap.size,0,J⟩ (O aP (a3:Int))).cell? ⟨w.heap.size,1,J⟩=aE (O aP 0):=bL Ta D;have f1:=bZ (i:=1) Ta;have hs4:=cN (i:=1) Ta (O aP (b3:Int));have hb4:=((hb2.setCell (p:=⟨w.heap.size,0,J⟩) (bM _) (O aP (a3:Int))).setCell (p:=⟨w.heap.size,1,J⟩) (bM _) (O aP (b3:Int))).drew;clear hs2 Ta Lm hb2;go_wp2_with fail;replace hs4:((w2.setCell ⟨w.heap.size,0,J⟩ (O aP (a3:Int))).setCell ⟨w.heap.size,1,J⟩ (O aP (b3:Int))).drew.heap[w.heap.size]?=_:=hs4;refine cQ (fun _=>True) aF [20,24,29] (by kernel_rfl) (by kernel_rfl) cM ?_;generalize((w2.setCell ⟨w.heap.size,0,J⟩ (O aP (a3:Int))).setCell ⟨w.heap.size,1,J⟩ (O aP (b3:Int))).drew=w3 at*;clear c0 f0 c1 f1;have hrow:w3.rangeAt w.heap.size 0 [O aP (a3:Int),O aP (b3:Int)]:=jT hs4 0 (fun j v hv=>by simpa using hv);have hbB:=hb4.mono hB;obtain⟨bb,hbb⟩: ∃bb,bb= !(((a3:Int)==(p.toNat:Int)) &&((b3:Int)==(q.toNat:Int))):=⟨_,D⟩;have aJb: ∀w,(binOp .neq 467 (aM #[O aP (a3:Int),O aP (b3:Int)]) (aM #[O aP (p.toNat:Int),O aP (q.toNat:Int)])).run bH w= .ok (aG bb) w:=fun w=>by rw[hbb];exact FY _ _ _ _ w
  have HB:=bK hbb;clear hbb;have MI:=U0;have lt0:(k:Int)<(k:Int)+2:=by omega
  have lt1:(k:Int)+1<(k:Int)+2:=by omega
  have wr1:IntKind.i64.wrap ((k:Int)+1)=(k:Int)+1:=by simp[IntKind.wrap,IntKind.bits,IntKind.signed];omega
  have nn1:(0:Int)≤(k:Int)+1:=by omega
  have tn1:((k:Int)+1).toNat=k+1:=by omega
  have d0:w3.cell? (ad.add k)=aE (O aP (p.toNat:Int)):=(hbB.cell (by rw[lL];exact hbk)).trans UI;have d1:w3.cell? (ad.add (k+1))=aE (O aP (q.toNat:Int)):=(hbB.cell (by rw[lL];exact hbk)).trans hcq;repeat(first|refine fQ ?_|refine fP ?_)
  refine kS underlying467 D (by kernel_rfl) D hrow (by rfl) (by rfl) ?_;refine PT ?_;repeat(first|refine fQ ?_|refine fP ?_)
  refine eP fO D d0 D (by rfl) (by rfl) ?_;refine PT ?_;repeat(first|refine fQ ?_|refine fP ?_)
  refine eP fO D d1 D (by rfl) (by rfl) ?_;refine PT ?_;repeat(first|refine fQ ?_|refine fP ?_)
  refine cV ?_;clear d0 d1 hrow
  cases bb with
  |false=>
   have hab:a3=p.toNat∧b3=q.toNat:=by have:=HB.out;simp at this;omega
   have hO:=HO.out;rw[bY hab] at hO;subst hO;go_wp2_with fail;go_fit(Hc.out w3 (hcut.up hbB) (bU hB hb4.size));rintro e w4 ⟨A4,c4,n4,rfl,Y1,hb34⟩;go_wp2;go_ret2;exact⟨A4,c4,n4,D,zJ Y1 hb4.size,eI hb4 hb34⟩
  |true=>
   have hab: ¬(a3=p.toNat∧b3=q.toNat):=by rintro⟨h1,h2⟩;have:=HB.out;simp[h1,h2] at this
   have hO:=HO.out;rw[bX hab] at hO;subst hO;go_wp2;go_ret2;exact⟨D,hb4⟩
def F2(n:Int):Bool:=decide (0≤n∧n≤1016)
def o5(n:Int):Int:=if F2 n=aF then n+8 else 0
theorem T7(n:Int)(w:aS):aU bH 173 #[O Y n] w fun e w'=>e=aJ (aG (F2 n))∧w=w':=by
 unfold F2;rcases(by omega:n<0∨(0≤n∧n≤1016)∨(0≤n∧1016<n)) with h|⟨h1,h2⟩|⟨h1,h2⟩;all_goals go_enter func173,ntmps173;go_wp2;go_ret;refine⟨?_,D⟩;simp;try omega
theorem Vo(n:Int)(w:aS):aU bH 228 #[O Y n] w fun e w'=>e=aJ (O Y (o5 n))∧w=w':=by
 have hf:=T7 n w
 cases hb:F2 n with
 |false=>
  rw[show o5 n=0 by unfold o5;rw[hb];rfl];rw[hb] at hf;clear hb;go_enter func228,ntmps228;go_wp2_with fail;go_fit hf;rintro e w1 ⟨rfl,rfl⟩;go_wp2;go_ret;exact⟨D,D⟩
 |true=>
  rw[show o5 n=n+8 by unfold o5;rw[hb];rfl];rw[hb] at hf;have hr:0≤n∧n≤1016:=of_decide_eq_true hb;clear hb;obtain⟨k,rfl⟩: ∃k:Nat,n=k:=⟨n.toNat,by omega⟩;go_enter func228,ntmps228;go_wp2_with fail;go_fit hf;rintro e w1 ⟨rfl,rfl⟩;go_wp2;go_ret;exact⟨Nw (by omega),D⟩
def noB(c:Int):Bool:=decide (c<0∨255<c)
def WG(l:List Int):Bool:=l.any noB
def LJ(c i:Int)(n:Nat):Nat:=if WG [c,i]=aF then 1 else if 1016<n then 7 else 0
def Wi(c i:Nat)(p:List UInt8):List UInt8:=bytesN 1 c++bytesN 1 i++bytesN 2 p.length++p
def frB(c i:Int)(p:List UInt8):List UInt8:= [181,98]++Cn (Wi c.toNat i.toNat p)
def cq(c i:Int)(p:List UInt8):List UInt8:=if LJ c i p.length=0 then frB c i p else []
theorem Wtr.below{w w':aS}{g:Nat}{v:aT}{l:List UInt8}{bad:Bool}(h:Wtr w g v l bad)(ha:Aw (Sj g v) w w'):aV g w w':=
 ⟨ha.os,ha.tape,ha.output,ha.size,fun k hk=>ha.block k (Nat.lt_trans hk h.lt) (fun hf=>by have:=(h.foot hf).1;omega)⟩
def vM(b:List UInt8):Bool:=b.take 2==([181,98]:List UInt8).take b.length
theorem JQ(b:List UInt8):(b.take 2++([181,98]:List UInt8).drop (b.take 2).length== [181,98])=vM b:=by
 unfold vM
 match b with
 | []=>rfl
 | [x]=>simp
 |x::y::l=>simp
theorem EP(xs ys:List UInt8)(hx:xs.length=2)(hy:ys.length=2)(w:aS):(binOp .eql 464 (aM (bv xs).toArray) (aM (bv ys).toArray)).run bH w= .ok (aG (xs==ys)) w:=by
 have h:=run_equalIn_bytes (P:=bH) w 9998 464 5 2 underlying464 fO (fun w=>by obtain⟨i,hi⟩:=eW nP;simp[sizeOf,bF,hi.1,hi.2.2.1]) xs ys hx hy;rw[run_eql_struct];rw[show(bv xs)=xs.map Extern.Stop.cell from D,show(bv ys)=ys.map Extern.Stop.cell from D,h];rfl
theorem Wo:Tryz.prog.eqGuardType Tryz.prog.depth 464=aD:=by kernel_rfl
theorem Nt(A:Option aW)(n c B:Nat)(b:List UInt8)(w:aS)(h:Rd w B 1 A n c (bv b))(hB:B≤w.heap.size):
  aU bH 225 #[aL A n c] w fun e w'=>e=aJ (aG (vM b))∧aV w.heap.size w w':=by
 have oJ:=h.blen;have hle:=h.le;have hmx:=h.max;unfold bB at hmx;obtain⟨k,hk⟩: ∃k,k=min n 2:=⟨_,D⟩;have hkn:k≤n:=by omega
 have yM:k≤2:=by omega
 have htk:=h.btake hkn
 have hbt:b.take 2=b.take k:=by
  rcases iD n 2 with g|g
  ·rw[show k=n by omega,List.take_of_length_le (by omega),List.take_of_length_le (by omega)]
  ·rw[show k=2 by omega]
 have hE:=bK (JQ b);rw[hbt] at hE;obtain⟨pre,hpre⟩: ∃pre,pre=b.take k:=⟨_,D⟩;rw[←hpre] at hE htk;have Am:pre.length=k:=by rw[hpre,fH];omega
 obtain⟨r,hr⟩: ∃r,r=vM b:=⟨_,D⟩;rw[←hr] at hE ⊢;have aBy:min (n:Int) 2=(k:Int):=by omega
 obtain⟨i0,hi⟩:=eW nP;have Hi:=bK hi;have yU:=fun w=>tL (P:=bH) dH hi.1 A n c k (by omega) w;have Hpl:=bK Am;clear oJ hbt hpre hr hi hk Am;have h1:aV w.heap.size w ((w.alloc (aI #[O aP 181,O aP 98] 464)).alloc (aI #[O aP 181,O aP 98] 464)):=((bP _ _).alloc (bM _) _).alloc (by simp) _;have wT:((w.alloc (aI #[O aP 181,O aP 98] 464)).alloc (aI #[O aP 181,O aP 98] 464)).heap[w.heap.size]?=aE (aI #[O aP 181,O aP 98] 464):=(heap_alloc_old _ _ (h:=by simp)).trans (bS w _);have hs1:((w.alloc (aI #[O aP 181,O aP 98] 464)).alloc (aI #[O aP 181,O aP 98] 464)).heap[w.heap.size+1]?=aE (aI #[O aP 181,O aP 98] 464):=Ek _ _ _;have hq:=EP (pre++([181,98]:List UInt8).drop pre.length) [181,98] (by simp;rw[Hpl.out];omega) D;simp only[hE.out] at hq
 obtain⟨x,y,hxy⟩: ∃x y,pre++([181,98]:List UInt8).drop pre.length= [x,y]:=by
  have hl:(pre++([181,98]:List UInt8).drop pre.length).length=2:=by simp;rw[Hpl.out];omega
  match h:pre++([181,98]:List UInt8).drop pre.length,hl with
  | [x,y],_=>exact⟨x,y,D⟩
 rw[hxy] at hq;have Hq:Hid (∀w,(binOp .eql 464 (aM #[O aP (x.toNat:Int),O aP (y.toNat:Int)]) (aM #[O aP 181,O aP 98])).run bH w= .ok (aG r) w):=bK hq
 have Hsp:Hid (splice [O aP 181,O aP 98] 0 (bv pre)= [O aP (x.toNat:Int),O aP (y.toNat:Int)]):=by
  refine bK ?_;have:splice [O aP 181,O aP 98] 0 (bv pre)=bv (pre++([181,98]:List UInt8).drop pre.length):=by unfold splice;rw[Pc,Yd,xF];simp[bv]
  rw[this,hxy];rfl
 have aBz:=Wo;clear hE hq;rcases(by omega:(k=n∧n≤2)∨(k=2∧2<n)) with⟨rfl,g⟩|⟨rfl,g⟩
 ·go_enter func225,ntmps225;go_wp2_with fail;replace h1:=h1.drew;refine cQ (fun _=>True) aD [] (by kernel_rfl) (by kernel_rfl) cM ?_;replace wT:((w.alloc (aI #[O aP 181,O aP 98] 464)).alloc (aI #[O aP 181,O aP 98] 464)).drew.heap[w.heap.size]?=_:=wT;replace hs1:((w.alloc (aI #[O aP 181,O aP 98] 464)).alloc (aI #[O aP 181,O aP 98] 464)).drew.heap[w.heap.size+1]?=_:=hs1;generalize((w.alloc (aI #[O aP 181,O aP 98] 464)).alloc (aI #[O aP 181,O aP 98] 464)).drew=w1 at*;repeat(first|refine fQ ?_|refine fP ?_)
  refine qB ?_;refine wpList_copy_splice D (.tmp 11) (.tmp 14) 22 22 D 5 dH (by rw[Hi.out.1];exact gD aE Hi.out.2.2.1) (aE ⟨w.heap.size+1,0,J⟩) A _ _ _ c D D (w.heap.size+1) 0 [O aP 181,O aP 98] 464 hs1 (bv pre) (by rw[xF,Hpl.out];exact(wG (by omega)).symm) (fun hp=>⟨D,?_⟩) (by rw[xF,Hpl.out];simp<;>omega) (F6 pre) (w.heap.size+1) w1 (bP _ _) (bM _) ?_
  ·rw[xF,Hpl.out] at hp;obtain⟨ad,e,_,hc⟩:=(htk.up (h1.mono hB)).at_ hp;exact⟨ad,e,hc⟩
  intro w2 hg2 hb2;rw[Hsp.out] at hg2;have Xf:=hg2.out;replace wT:=bV wT hb2 (by omega);have h2:aV w.heap.size w w2:=h1.trans (hb2.mono (by omega));clear hs1 hb2 h1 hg2;go_wp2_with fail;refine cC cM (fun h=>by cases h) ?_;refine PT ?_;refine cV ?_;have c0:w2.cell? ⟨w.heap.size+1,0,J⟩=aE (O aP (x.toNat:Int)):=bL Xf D;have c1:w2.cell? ⟨w.heap.size+1,1,J⟩=aE (O aP (y.toNat:Int)):=bL Xf D;have d0:w2.cell? ⟨w.heap.size,0,J⟩=aE (O aP 181):=bL wT D;have d1:w2.cell? ⟨w.heap.size,1,J⟩=aE (O aP 98):=bL wT D;have hq:=Hq.out;clear Xf wT;go_wp2;go_ret;exact⟨D,h2⟩
 ·have aFf: ∀w,(Instr.slice 22 (aL A n c) J (aE (O Y 2)) J).run bH w= .ok (aL A 2 c) w:=yU;clear yU aBy;have oX:min (n:Int) 2=2:=by omega
  go_enter func225,ntmps225;go_wp2_with fail;replace h1:=h1.drew;refine cQ (fun _=>True) aD [] (by kernel_rfl) (by kernel_rfl) cM ?_;replace wT:((w.alloc (aI #[O aP 181,O aP 98] 464)).alloc (aI #[O aP 181,O aP 98] 464)).drew.heap[w.heap.size]?=_:=wT;replace hs1:((w.alloc (aI #[O aP 181,O aP 98] 464)).alloc (aI #[O aP 181,O aP 98] 464)).drew.heap[w.heap.size+1]?=_:=hs1;generalize((w.alloc (aI #[O aP 181,O aP 98] 464)).alloc (aI #[O aP 181,O aP 98] 464)).drew=w1 at*;repeat(first|refine fQ ?_|refine fP ?_)
  refine qB ?_;refine wpList_copy_splice D (.tmp 11) (.tmp 14) 22 22 D 5 dH (by rw[Hi.out.1];exact gD aE Hi.out.2.2.1) (aE ⟨w.heap.size+1,0,J⟩) A _ _ _ c D D (w.heap.size+1) 0 [O aP 181,O aP 98] 464 hs1 (bv pre) (by rw[xF,Hpl.out];exact(wG (by omega)).symm) (fun hp=>⟨D,?_⟩) (by rw[xF,Hpl.out];simp<;>omega) (F6 pre) (w.heap.size+1) w1 (bP _ _) (bM _) ?_
  ·rw[xF,Hpl.out] at hp;obtain⟨ad,e,_,hc⟩:=(htk.up (h1.mono hB)).at_ hp;exact⟨ad,e,hc⟩
  intro w2 hg2 hb2;rw[Hsp.out] at hg2;have Xf:=hg2.out;replace wT:=bV wT hb2 (by omega);have h2:aV w.heap.size w w2:=h1.trans (hb2.mono (by omega));clear hs1 hb2 h1 hg2;go_wp2_with fail;refine cC cM (fun h=>by cases h) ?_;refine PT ?_;refine cV ?_;have c0:w2.cell? ⟨w.heap.size+1,0,J⟩=aE (O aP (x.toNat:Int)):=bL Xf D;have c1:w2.cell? ⟨w.heap.size+1,1,J⟩=aE (O aP (y.toNat:Int)):=bL Xf D;have d0:w2.cell? ⟨w.heap.size,0,J⟩=aE (O aP 181):=bL wT D;have d1:w2.cell? ⟨w.heap.size,1,J⟩=aE (O aP 98):=bL wT D;have hq:=Hq.out;clear Xf wT;go_wp2;go_ret;exact⟨D,h2⟩
structure FrT where
 c:Nat
 i:Nat
 p:List UInt8
 size:Nat
 err:Nat
def gE(b:List UInt8):FrT:=
 if vM b=aD then⟨0,0,[],0,3⟩ else
 match b with
 |_::_::c::i::l::h::_=>
  if 1016<l.toNat+256*h.toNat then⟨0,0,[],0,7⟩ else
  if b.length<l.toNat+256*h.toNat+8 then⟨0,0,[],0,2⟩ else
  match xD ((b.take (l.toNat+256*h.toNat+8)).drop 2) with
  |none=>⟨0,0,[],0,4⟩
  |some body=>⟨c.toNat,i.toNat,body.drop 4,l.toNat+256*h.toNat+8,0⟩
 |_=>⟨0,0,[],0,2⟩
def za(w:aS)(T:FrT)(e:aX)(w':aS):Prop:=
 ∃A n cap,e=aJ (aN #[aM #[O Y (T.c:Int),O Y (T.i:Int),aL A n cap],O Y (T.size:Int),O Y (T.err:Int)])∧Rd w' w'.heap.size 1 A n cap (bv T.p)∧aV w.heap.size w w'
theorem ja{w:aS}{g e:Nat}{a b c:aT}(h:w.heap[g]?=aE (aI #[a,b,c] e))(x y z:aT):
  w.cell? ⟨g,0,J⟩=aE a∧w.frozen? ⟨g,0,J⟩=aD∧
  (w.setCell ⟨g,0,J⟩ x).cell? ⟨g,1,J⟩=aE b∧(w.setCell ⟨g,0,J⟩ x).frozen? ⟨g,1,J⟩=aD∧
  ((w.setCell ⟨g,0,J⟩ x).setCell ⟨g,1,J⟩ y).cell? ⟨g,2,J⟩=aE c∧((w.setCell ⟨g,0,J⟩ x).setCell ⟨g,1,J⟩ y).frozen? ⟨g,2,J⟩=aD∧
  (((w.setCell ⟨g,0,J⟩ x).setCell ⟨g,1,J⟩ y).setCell ⟨g,2,J⟩ z).heap[g]?=aE (aI #[x,y,z] e)∧
  (((w.setCell ⟨g,0,J⟩ x).setCell ⟨g,1,J⟩ y).setCell ⟨g,2,J⟩ z).heap.size=w.heap.size:=by
 have h1:=cN (i:=0) h x;have h2:=cN (i:=1) h1 y;have h3:=cN (i:=2) h2 z;exact⟨bL h D,bZ h,bL h1 D,bZ h1,bL h2 D,bZ h2,h3,by simp[World.setCell]⟩
theorem wQ{B:Nat}{w0 w:aS}{g:Nat}(hb:aV B w0 w)(hg:B≤g)(x y z:aT):aV B w0 (((w.setCell ⟨g,0,J⟩ x).setCell ⟨g,1,J⟩ y).setCell ⟨g,2,J⟩ z):=
 ((hb.setCell (p:=⟨g,0,J⟩) hg x).setCell (p:=⟨g,1,J⟩) hg y).setCell (p:=⟨g,2,J⟩) hg z
theorem M4{l b:List UInt8}(h:xD l=aE b):b.length+2=l.length:=by
 unfold xD at h;split at h
 ·cases h
 ·split at h
  ·injection h with h;rw[←h,fH];omega
  ·cases h
theorem V6(A:Option aW)(n c B:Nat)(b:List UInt8)(w:aS)(h:Rd w B 1 A n c (bv b))(hB:B≤w.heap.size)(hn:n≤1000000):
  aU bH 177 #[aL A n c] w (za w (gE b)):=by
 have oJ:=h.blen;have hle:=h.le;have hmx:=h.max;unfold bB at hmx;obtain⟨T,hT⟩: ∃T,T=gE b:=⟨_,D⟩;rw[←hT];have hres:(w.alloc (aI #[O Y 0,O Y 0,aL J 0 0] 277)).heap[w.heap.size]?=aE (aI #[O Y 0,O Y 0,aL J 0 0] 277):=bS w _;have h0:aV w.heap.size w (w.alloc (aI #[O Y 0,O Y 0,aL J 0 0] 277)):=(bP _ _).alloc (bM _) _;have DS:=Nt A n c B b _ (h.up (h0.mono hB)) (bU hB h0.size);have UK:w.heap.size<(w.alloc (aI #[O Y 0,O Y 0,aL J 0 0] 277)).heap.size:=bT hres
 cases UL:vM b with
 |false=>
  obtain rfl:T=⟨0,0,[],0,3⟩:=by rw[hT];unfold gE;rw[bY UL]
  rw[UL] at DS;clear hT UL oJ;go_enter func177,ntmps177;go_wp2_with fail;go_fit DS;rintro e w2 ⟨rfl,hb2⟩;replace hres:=bV hres hb2 UK;obtain⟨s1,s2,s3,s4,s5,s6,he,hs⟩:=ja hres (O Y 0) (O Y 0) (aL J 0 0);have e0:=bL (i:=0) (v:=O Y 0) he D;have e1:=bL (i:=1) (v:=O Y 0) he D;have e2:=bL (i:=2) (v:=aL J 0 0) he D;go_wp2;refine bR (v:=aN #[aM #[O Y 0,O Y 0,aL J 0 0],O Y 0,O Y 3]) (by simp[results,go_sem,e0,e1,e2]) D ⟨J,0,0,D,iH _ _ _,wQ (eI h0 hb2) (bM _) _ _ _⟩
 |true=>
  rw[UL] at DS;by_cases h6:n<6
  ·obtain rfl:T=⟨0,0,[],0,2⟩:=by
    rw[hT];unfold gE;rw[bX (by rw[UL];simp)]
    match b,oJ with
    | [],_=>rfl
    | [_],_=>rfl
    | [_,_],_=>rfl
    | [_,_,_],_=>rfl
    | [_,_,_,_],_=>rfl
    | [_,_,_,_,_],_=>rfl
    |_::_::_::_::_::_::_,oJ=>simp at oJ;omega
   clear hT UL oJ;go_enter func177,ntmps177;go_wp2_with fail;go_fit DS;rintro e w2 ⟨rfl,hb2⟩;replace hres:=bV hres hb2 UK;obtain⟨s1,s2,s3,s4,s5,s6,he,hs⟩:=ja hres (O Y 0) (O Y 0) (aL J 0 0);have e0:=bL (i:=0) (v:=O Y 0) he D;have e1:=bL (i:=1) (v:=O Y 0) he D;have e2:=bL (i:=2) (v:=aL J 0 0) he D;go_wp2;refine bR (v:=aN #[aM #[O Y 0,O Y 0,aL J 0 0],O Y 0,O Y 2]) (by simp[results,go_sem,e0,e1,e2]) D ⟨J,0,0,D,iH _ _ _,wQ (eI h0 hb2) (bM _) _ _ _⟩
  ·obtain⟨x0,x1,x2,x3,x4,x5,rest,rfl⟩: ∃x0 x1 x2 x3 x4 x5 rest,b=x0::x1::x2::x3::x4::x5::rest:=by
    match b,oJ with
    |x0::x1::x2::x3::x4::x5::rest,_=>exact⟨x0,x1,x2,x3,x4,x5,rest,D⟩
    | [],oJ=>simp at oJ;omega
    | [_],oJ=>simp at oJ;omega
    | [_,_],oJ=>simp at oJ;omega
    | [_,_,_],oJ=>simp at oJ;omega
    | [_,_,_,_],oJ=>simp at oJ;omega
    | [_,_,_,_,_],oJ=>simp at oJ;omega
   obtain⟨N,hN⟩: ∃N,N=x4.toNat+256*x5.toNat:=⟨_,D⟩;obtain⟨bb,hbb⟩: ∃bb,bb=x0::x1::x2::x3::x4::x5::rest:=⟨_,D⟩;have hT2:T=if 1016<N then⟨0,0,[],0,7⟩ else if n<N+8 then⟨0,0,[],0,2⟩ else match xD ((bb.take (N+8)).drop 2) with|none=>⟨0,0,[],0,4⟩|some body=>⟨x2.toNat,x3.toNat,body.drop 4,N+8,0⟩:=by rw[hT];unfold gE;rw[bX (by rw[UL];simp)];simp only[←hN,←hbb];rw[show bb.length=n by rw[hbb];exact oJ]
   rw[←hbb] at h oJ;have hx2:=x2.toNat_lt;have Na:=x3.toNat_lt;have hx4:=x4.toNat_lt;have hx5:=x5.toNat_lt;have hcut:Rd w B 1 (oH A c 2 1) 4 (c-2) (bv [x2,x3,x4,x5]):=by have:=(h.btake (k:=6) (by omega)).bdrop (k:=2) (by omega);rw[hbb] at this;exact this
   have Kb:=fun(S:Nat) (hS:S≤n) (h2:2≤S)=>(h.btake (k:=S) hS).bdrop (k:=2) h2;obtain⟨i0,hi⟩:=eW nP;have As:=hi.1;have yU: ∀w,(Instr.slice 22 (aL A n c) (aE (O Y 2)) (aE (O Y 6)) J).run bH w= .ok (aL (oH A c 2 1) 4 (c-2)) w:=fun w=>Dd (P:=bH) dH hi.1 hi.2.2.1 A n c 2 6 (by omega) (by omega) w;have MJ: ∀S:Nat,2≤S→S≤c→∀w,(Instr.slice 22 (aL A n c) (aE (O Y 2)) (aE (O Y (S:Int))) J).run bH w= .ok (aL (oH A c 2 1) (S-2) (c-2)) w:=fun S h1 h2 w=>Dd (P:=bH) dH hi.1 hi.2.2.1 A n c 2 S h1 h2 w;have MK: ∀A' n' c',4≤n'→∀w,(Instr.slice 22 (aL A' n' c') (aE (O Y 4)) J J).run bH w= .ok (aL (oH A' c' 4 1) (n'-4) (c'-4)) w:=fun A' n' c' h1 w=>rG (P:=bH) dH hi.1 hi.2.2.1 A' n' c' 4 h1 w;have HrunS:=bK MJ;have Hrun4:=bK MK;have HcutS:=bK Kb;have HT:=bK hT2;have Hbb:=bK hbb;have HN:=bK hN;have Hll:=bK oJ;have hNb:N≤65535:=by omega
   clear hT hT2 hbb UL hN oJ MJ MK Kb hi;have w1:IntKind.i64.wrap (x2.toNat:Int)=(x2.toNat:Int):=by rw[IntKind.wrap_i64];omega
   have w2':IntKind.i64.wrap (x3.toNat:Int)=(x3.toNat:Int):=by rw[IntKind.wrap_i64];omega
   have w3':IntKind.i64.wrap (N:Int)=(N:Int):=by rw[IntKind.wrap_i64];omega
   go_enter func177,ntmps177;go_wp2_with fail;go_fit DS;rintro e w2 ⟨rfl,hb2⟩;replace hres:=bV hres hb2 UK;have hb2':=eI h0 hb2;clear DS hb2 h0 UK;go_wp2_with fail;go_fit(Jq _ 4 (c-2) B [x2,x3,x4,x5] w2 (hcut.up (hb2'.mono hB)) (bU hB hb2'.size) (by omega));rintro e w3 ⟨g,rfl,hr3,Cq,hb3⟩;have Lo:w.heap.size<w2.heap.size:=bT hres;replace hres:=bV hres hb3 Lo;have hb3':=eI hb2' hb3;generalize w2.heap.size=lo at*;clear hb2' hb3 hcut yU;go_wp2_with fail;go_fit(Cu lo g [x2,x3,x4,x5] aD 1 w3 hr3);rintro e w4 ⟨rfl,hr4,hg4⟩;rw[show Gd (nU 1) [x2,x3,x4,x5] aD=aD from D,show Qa (nU 1) [x2,x3,x4,x5] aD= [x3,x4,x5] from D] at hr4;rw[show num (Dk (nU 1) [x2,x3,x4,x5] aD)=x2.toNat by show x2.toNat+256*0=_;omega];have ta:w.heap.size<w3.heap.size:=bT hres;have hb4':aV w.heap.size w w4:=hb3'.grown hg4 hb3'.size (fun k hk=>by injection hk with hk;omega);have fM:=(hg4.block _ ta (by intro e;injection e with e;omega)).trans hres;clear hr3 hg4 hb3' hres;go_wp2_with fail;go_fit(Cu lo g [x3,x4,x5] aD 1 w4 hr4);rintro e w5 ⟨rfl,hr5,hg5⟩;rw[show Gd (nU 1) [x3,x4,x5] aD=aD from D,show Qa (nU 1) [x3,x4,x5] aD= [x4,x5] from D] at hr5;rw[show num (Dk (nU 1) [x3,x4,x5] aD)=x3.toNat by show x3.toNat+256*0=_;omega];have tb:w.heap.size<w4.heap.size:=bT fM;have hb5':aV w.heap.size w w5:=hb4'.grown hg5 hb4'.size (fun k hk=>by injection hk with hk;omega);have cS:=(hg5.block _ tb (by intro e;injection e with e;omega)).trans fM;clear hr4 hg5 hb4' fM;go_wp2_with fail;go_fit(Cu lo g [x4,x5] aD 2 w5 hr5);rintro e w6 ⟨rfl,hr6,hg6⟩;rw[show num (Dk (nU 2) [x4,x5] aD)=N by rw[HN.out];show x4.toNat+256*(x5.toNat+256*0)=_;omega];have td:w.heap.size<w5.heap.size:=bT cS;have hb6':aV w.heap.size w w6:=hb5'.grown hg6 hb5'.size (fun k hk=>by injection hk with hk;omega);have hres:=(hg6.block _ td (by intro e;injection e with e;omega)).trans cS;clear hr5 hg6 hb5' cS hr6 ta tb td Lo Cq;have iJ:=Vo (N:Int) w6;by_cases hN:1016<N
   ·rw[show o5 (N:Int)=0 by unfold o5 F2;rw[dN (by omega)];rfl] at iJ;obtain rfl:T=⟨0,0,[],0,7⟩:=by rw[HT.out,bY hN]
    go_wp2_with fail;go_fit iJ;rintro e w7 ⟨rfl,rfl⟩;obtain⟨s1,s2,s3,s4,s5,s6,he,hs⟩:=ja hres (O Y 0) (O Y 0) (aL J 0 0);have e0:=bL (i:=0) (v:=O Y 0) he D;have e1:=bL (i:=1) (v:=O Y 0) he D;have e2:=bL (i:=2) (v:=aL J 0 0) he D;go_wp2;refine bR (v:=aN #[aM #[O Y 0,O Y 0,aL J 0 0],O Y 0,O Y 7]) (by simp[results,go_sem,e0,e1,e2]) D ⟨J,0,0,D,iH _ _ _,wQ (hb6') (bM _) _ _ _⟩
   ·obtain⟨S,hS⟩: ∃S,S=N+8:=⟨_,D⟩;rw[show o5 (N:Int)=(S:Int) by unfold o5 F2;rw[dU (by omega),hS];rfl] at iJ;have hS2:N+8≤S:=by omega
    have hS3:S≤N+8:=by omega
    have HS:=bK hS;clear hS;by_cases hnS:n<S
    ·obtain rfl:T=⟨0,0,[],0,2⟩:=by rw[HT.out,bX hN,bY (by omega)]
     go_wp2_with fail;go_fit iJ;rintro e w7 ⟨rfl,rfl⟩;obtain⟨s1,s2,s3,s4,s5,s6,he,hs⟩:=ja hres (O Y 0) (O Y 0) (aL J 0 0);have e0:=bL (i:=0) (v:=O Y 0) he D;have e1:=bL (i:=1) (v:=O Y 0) he D;have e2:=bL (i:=2) (v:=aL J 0 0) he D;go_wp2;refine bR (v:=aN #[aM #[O Y 0,O Y 0,aL J 0 0],O Y 0,O Y 2]) (by simp[results,go_sem,e0,e1,e2]) D ⟨J,0,0,D,iH _ _ _,wQ (hb6') (bM _) _ _ _⟩
    ·have hT2:=HT.out;rw[bX hN,bX (by omega),←HS.out] at hT2;have MJ:=HrunS.out S (by omega) (by omega);have xh:=Vc (oH A c 2 1) (S-2) (c-2) B _ w6 ((HcutS.out S (by omega) (by omega)).up (hb6'.mono hB)) (bU hB hb6'.size) (by omega);have hol: ∀body,xD ((bb.take S).drop 2)=aE body→body.length=S-4:=fun body hb=>by have:=M4 hb;rw[iA,fH,Hll.out] at this;omega
     have ML:w.heap.size<w6.heap.size:=bT hres
     cases ho:xD ((bb.take S).drop 2) with
     |none=>
      rw[ho] at xh hT2;obtain rfl:T=⟨0,0,[],0,4⟩:=hT2;clear ho hol;go_wp2_with fail;go_fit iJ;rintro e w7 ⟨rfl,rfl⟩;go_wp2_with fail;go_fit xh;rintro e w7 ⟨rfl,hb7⟩;replace hres:=bV hres hb7 ML;obtain⟨s1,s2,s3,s4,s5,s6,he,hs⟩:=ja hres (O Y 0) (O Y 0) (aL J 0 0);have e0:=bL (i:=0) (v:=O Y 0) he D;have e1:=bL (i:=1) (v:=O Y 0) he D;have e2:=bL (i:=2) (v:=aL J 0 0) he D;go_wp2;refine bR (v:=aN #[aM #[O Y 0,O Y 0,aL J 0 0],O Y 0,O Y 4]) (by simp[results,go_sem,e0,e1,e2]) D ⟨J,0,0,D,iH _ _ _,wQ (eI hb6' hb7) (bM _) _ _ _⟩
     |some body=>
      have hbl:=hol body ho;rw[ho] at xh hT2;obtain rfl:T=⟨x2.toNat,x3.toNat,body.drop 4,S,0⟩:=hT2;clear ho hol;go_wp2_with fail;go_fit iJ;rintro e w7 ⟨rfl,rfl⟩;go_wp2_with fail;go_fit xh;rintro e w7 ⟨A7,c7,n7,rfl,uW,hb7⟩;have xi:=Bv uW;have MK:=Hrun4.out A7 n7 c7 (by omega);replace hres:=bV hres hb7 ML;have aB1:=eI hb6' hb7;have UM:w.heap.size<w7.heap.size:=bT hres;obtain⟨s1,s2,s3,s4,s5,s6,he,hs⟩:=ja hres (O Y (x2.toNat:Int)) (O Y (x3.toNat:Int)) (aL (oH A7 c7 4 1) (n7-4) (c7-4));have e0:=bL (i:=0) (v:=O Y (x2.toNat:Int)) he D;have e1:=bL (i:=1) (v:=O Y (x3.toNat:Int)) he D;have e2:=bL (i:=2) (v:=aL (oH A7 c7 4 1) (n7-4) (c7-4)) he D;go_wp2;refine bR (v:=aN #[aM #[O Y (x2.toNat:Int),O Y (x3.toNat:Int),aL (oH A7 c7 4 1) (n7-4) (c7-4)],O Y (S:Int),O Y 0]) (by simp[results,go_sem,e0,e1,e2]) D ⟨_,_,_,D,?_,wQ aB1 (bM _) _ _ _⟩;have Bu:=Du (Du (Du uW (show w.heap.size<w6.heap.size from ML) (i:=0) (O Y (x2.toNat:Int))) ML (i:=1) (O Y (x3.toNat:Int))) ML (i:=2) (aL (oH A7 c7 4 1) (n7-4) (c7-4));exact(oA Bu).bdrop (by omega)
theorem zK{x y:UInt8}{l:List UInt8} :vM (x::y::l)=(decide (x=181) && decide (y=98)):=by
 unfold vM;by_cases h1:x=181<;>by_cases h2:y=98<;>simp[h1,h2]
theorem Cy{x0 x1 x2 x3 x4 x5:UInt8}{rest:List UInt8}(h0:x0=181)(h1:x1=98):gE (x0::x1::x2::x3::x4::x5::rest)=
  if 1016<x4.toNat+256*x5.toNat then⟨0,0,[],0,7⟩ else if rest.length+6<x4.toNat+256*x5.toNat+8 then⟨0,0,[],0,2⟩ else
  match xD (x2::x3::x4::x5::rest.take (x4.toNat+256*x5.toNat+2)) with
  |none=>⟨0,0,[],0,4⟩
  |some body=>⟨x2.toNat,x3.toNat,body.drop 4,x4.toNat+256*x5.toNat+8,0⟩:=by
 unfold gE;rw[bX (by rw[zK];simp[h0,h1])];simp only[List.length_cons];rfl
theorem Eh{b:List UInt8}(h:b.length<6)(hb:vM b=aF):gE b=⟨0,0,[],0,2⟩:=by
 unfold gE;rw[bX (by rw[hb];simp)]
 match b,h with
 | [],_=>rfl
 | [_],_=>rfl
 | [_,_],_=>rfl
 | [_,_,_],_=>rfl
 | [_,_,_,_],_=>rfl
 | [_,_,_,_,_],_=>rfl
 |_::_::_::_::_::_::_,h=>simp at h;omega
theorem Wg{b more:List UInt8}(h:vM b=aD):vM (b++more)=aD:=by
 match b,h with
 | [],h=>simp[vM] at h
 | [x],h=>
  have hx: ¬x=181:=by rintro rfl;simp[vM] at h
  cases more with
  |nil=>simpa using h
  |cons y l=>show vM (x::y::l)=aD;rw[zK];simp[hx]
 |x::y::l,h=>
  show vM (x::y::(l++more))=aD;rw[zK] at h ⊢;exact h
theorem Lg(b more:List UInt8)(h:(gE b).err≠2):gE (b++more)=gE b:=by
 cases hb:vM b with
 |false=>
  have e1:gE b=⟨0,0,[],0,3⟩:=by unfold gE;rw[bY hb]
  rw[e1];unfold gE;rw[bY (Wg hb)]
 |true=>
  by_cases h6:b.length<6
  ·rw[Eh h6 hb] at h;exact absurd D h
  ·match b,h6 with
   |x0::x1::x2::x3::x4::x5::rest,_=>
    rw[zK] at hb;simp only[dP,decide_eq_true_eq] at hb;simp only[dS];rw[Cy hb.1 hb.2] at h ⊢;rw[Cy hb.1 hb.2];generalize x4.toNat+256*x5.toNat=N at*;by_cases hN:1016<N
    ·rw[bY hN,bY hN]
    ·rw[bX hN] at h;rw[bX hN,bX hN];by_cases hl:rest.length+6<N+8
     ·rw[bY hl] at h;exact absurd D h
     ·rw[bX hl,bX (by rw[cZ];omega),List.take_append_of_le_length (by omega)]
   | [],h6=>simp at h6
   | [_],h6=>simp at h6
   | [_,_],h6=>simp at h6
   | [_,_,_],h6=>simp at h6
   | [_,_,_,_],h6=>simp at h6
   | [_,_,_,_,_],h6=>simp at h6
theorem Uo{l b:List UInt8}(h:xD l=aE b):Cn b=l:=by
 unfold xD at h;split at h
 ·cases h
 ·split at h
  ·rename_i h2;injection h with h;rw[←h];exact h2
  ·cases h
theorem Uu(n:Nat):bytesN 2 n= [UInt8.ofNat (n % 256),UInt8.ofNat (n/256 % 256)]:=rfl
theorem yJ(x:UInt8):UInt8.ofNat (x.toNat % 256)=x:=by
 apply UInt8.toNat_inj.1;rw[iT];have:=x.toNat_lt;omega
theorem Ge(more:List UInt8)(h:(gE more).err=0):
  LJ ((gE more).c:Int) ((gE more).i:Int) (gE more).p.length=0∧(gE more).size≤more.length∧8≤(gE more).size∧cq ((gE more).c:Int) ((gE more).i:Int) (gE more).p=more.take (gE more).size:=by
 cases hb:vM more with
 |false=>
  have e1:gE more=⟨0,0,[],0,3⟩:=by unfold gE;rw[bY hb]
  rw[e1] at h;cases h
 |true=>
  by_cases h6:more.length<6
  ·rw[Eh h6 hb] at h;cases h
  ·match more,h6 with
   |x0::x1::x2::x3::x4::x5::rest,_=>
    rw[zK] at hb;simp only[dP,decide_eq_true_eq] at hb;obtain⟨rfl,rfl⟩:=hb;rw[Cy D D] at h ⊢;have l2:=x2.toNat_lt;have l3:=x3.toNat_lt;have l4:=x4.toNat_lt;have l5:=x5.toNat_lt;obtain⟨N,hN⟩: ∃N,N=x4.toNat+256*x5.toNat:=⟨_,D⟩;rw[←hN] at h ⊢;by_cases h1:1016<N
    ·rw[bY h1] at h;cases h
    ·rw[bX h1] at h ⊢;by_cases h2:rest.length+6<N+8
     ·rw[bY h2] at h;cases h
     ·rw[bX h2] at h ⊢
      cases ho:xD (x2::x3::x4::x5::rest.take (N+2)) with
      |none=>rw[ho] at h;cases h
      |some body=>
       have hs:=Uo ho;have hl:=M4 ho;simp only[List.length_cons,fH] at hl;have hbl:body.length=N+4:=by omega
       match body,hbl with
       |y2::y3::y4::y5::p,hbl=>
        have Am:p.length=N:=by simpa using hbl
        unfold Cn at hs;simp only[dS,List.cons.injEq] at hs;obtain⟨rfl,rfl,rfl,rfl,hs⟩:=hs;have hE:LJ (y2.toNat:Int) (y3.toNat:Int) p.length=0:=by unfold LJ;rw[bX (by unfold WG noB;simp;omega),bX (by omega)]
        refine⟨hE,by simp;omega,by simp,?_⟩;show cq (y2.toNat:Int) (y3.toNat:Int) p=_;unfold cq;rw[bY hE]
        have Te:Wi y2.toNat y3.toNat p=y2::y3::y4::y5::p:=by
         have e1:bytesN 1 y2.toNat= [y2]:=by show [UInt8.ofNat (y2.toNat % 256)]=_;rw[yJ]
         have e2:bytesN 1 y3.toNat= [y3]:=by show [UInt8.ofNat (y3.toNat % 256)]=_;rw[yJ]
         have e3:bytesN 2 p.length= [y4,y5]:=by
          rw[Am,hN,Uu];have a1:(y4.toNat+256*y5.toNat)% 256=y4.toNat % 256:=by omega
          have a2:(y4.toNat+256*y5.toNat)/256 % 256=y5.toNat % 256:=by omega
          rw[a1,a2,yJ,yJ]
         unfold Wi;rw[e1,e2,e3];rfl
        unfold frB Cn;simp only[Int.toNat_natCast];rw[Te];simp only[dS,eF,hs];rfl
       | [],hbl=>simp at hbl
       | [_],hbl=>simp at hbl
       | [_,_],hbl=>simp at hbl
       | [_,_,_],hbl=>simp at hbl
   | [],h6=>simp at h6
   | [_],h6=>simp at h6
   | [_,_],h6=>simp at h6
   | [_,_,_],h6=>simp at h6
   | [_,_,_,_],h6=>simp at h6
   | [_,_,_,_,_],h6=>simp at h6
theorem Rc(b:List UInt8)(h:(gE b).err≠0):(gE b).c=0∧(gE b).i=0∧(gE b).p= []∧(gE b).size=0:=by
 unfold gE at h ⊢;split
 ·exact⟨D,D,D,D⟩
 ·rename_i hb;rw[bX hb] at h;split
  ·split
   ·exact⟨D,D,D,D⟩
   ·rename_i h1;split
    ·exact⟨D,D,D,D⟩
    ·rename_i h2;split
     ·exact⟨D,D,D,D⟩
     ·rename_i h3;simp only[bX h1,bX h2,h3] at h;exact absurd D h
  ·exact⟨D,D,D,D⟩
end
section
open Go.RowKit
section
variable {α:Type} {β:Type} (sz:α→Int)
def Cw(x:α):List α→List α
 | []=> [x]
 |y::r=>if sz y<sz x then y::Cw x r else x::y::r
def Bw(l:List α):List α:=(l.foldl (fun r x=>Cw sz x r) []).reverse
theorem Jm{p:List α→Prop}(h0:p [])(hs: ∀l x,p l→p (l++ [x])): ∀l,p l:=fun l=>by
 have: ∀r:List α,p r.reverse:=fun r=>by
  induction r with
  |nil=>exact h0
  |cons x r ih=>rw[List.reverse_cons];exact hs _ _ ih
 have h:=this l.reverse
 rwa[List.reverse_reverse] at h
theorem Yo:Bw sz []= []:=rfl
theorem Ec(l:List α)(x:α):Bw sz (l++ [x])=(Cw sz x (Bw sz l).reverse).reverse:=by
 unfold Bw;rw[List.foldl_append,List.reverse_reverse];rfl
theorem Yg{x:α} : ∀ {s p:List α},(∀y∈s,sz y<sz x)→(p= []∨∃y r,p=y::r∧¬sz y<sz x)→Cw sz x (s++p)=s++x::p
 | [],p,_,hp=>by
  rcases hp with rfl|⟨y,r,rfl,h⟩
  ·rfl
  ·show Cw sz x (y::r)=_;unfold Cw;rw[bX h];rfl
 |y::s,p,hs,hp=>by show Cw sz x (y::(s++p))=_;unfold Cw;rw[if_pos (hs y List.mem_cons_self),Yg (fun z hz=>hs z (List.mem_cons_of_mem _ hz)) hp];rfl
theorem Og{l p s:List α}{x:α}(h:Bw sz l=p++s)(hs: ∀y∈s,sz y<sz x)(hp:p= []∨∃r y,p=r++ [y]∧¬sz y<sz x):Bw sz (l++ [x])=p++x::s:=by
 rw[Ec,h,List.reverse_append,Yg sz (s:=s.reverse) (p:=p.reverse) (fun y hy=>hs y (List.mem_reverse.1 hy)) (by
  rcases hp with rfl|⟨r,y,rfl,h9⟩
  ·exact .inl D
  ·exact .inr ⟨y,r.reverse,by simp,h9⟩)]
 simp
theorem Rr(x:α): ∀r:List α,(Cw sz x r).length=r.length+1
 | []=>rfl
 |y::r=>by
  unfold Cw;split
  ·simp[Rr x r]
  ·rfl
theorem O0: ∀l:List α,(Bw sz l).length=l.length:=Jm (p:=fun l=>(Bw sz l).length=l.length) D fun l x ih=>by
 rw[Ec,List.length_reverse,Rr,List.length_reverse,ih,List.length_append];rfl
theorem Sb{x z:α} : ∀ {r:List α},z∈Cw sz x r↔z=x∨z∈r
 | []=>by simp[Cw]
 |y::r=>by
  unfold Cw;split
  ·simp only[List.mem_cons,Sb];constructor
   ·rintro(h|h|h)
    ·exact .inr (.inl h)
    ·exact .inl h
    ·exact .inr (.inr h)
   ·rintro(h|h|h)
    ·exact .inr (.inl h)
    ·exact .inl h
    ·exact .inr (.inr h)
  ·simp
theorem Yk{z:α} : ∀l:List α,z∈Bw sz l↔z∈l:=Jm (p:=fun l=>z∈Bw sz l↔z∈l) (by simp[Bw]) fun l x ih=>by
 rw[Ec,List.mem_reverse,Sb,List.mem_reverse,ih,List.mem_append,List.mem_singleton];exact or_comm
end
section
variable {α:Type} {β:Type}
end
end
section
open Go.RowKit NumLaw
theorem Ee(w:aS)(e:aY)(cs:List aT)(hm:cs.length≤bB):Rd (w.alloc (aI cs.toArray e)) (w.heap.size+1) 1 (aE ⟨w.heap.size,0,J⟩) cs.length cs.length cs:=by
 refine⟨by simp,bM _,hm,fun _=>⟨_,D,iO _,fun j u hu=> ?_⟩⟩;have e1:(⟨w.heap.size,0,J⟩:aW).add j=⟨w.heap.size,j,J⟩:=by unfold Addr.add;split<;>simp_all
 rw[e1,World.cell?,show(⟨w.heap.size,j,J⟩:aW).block=w.heap.size from D,bS w _];simpa using hu
end
section
open Go.RowKit
namespace Ord
variable {P:Program} {ops:Array Oper} {G:Cfg} {R:Act→World→Prop} {r:List Oper} {o:Oper} {a:Act} {w:World}
theorem Kg{v:aT}{Z:Prop}(h:Z)(h1:isX P o=aD:=by kernel_rfl)(h2:Region.wanted o (bC ops a.tmps)=aF:=by kernel_rfl)(h3: ∀w2,(bD a.eval o).run P w2= .ok (.value v) w2:=by(intro w2;go_simp;try with_reducible rfl))
  (h4:wpE P ops G R r (a.put o.dst v) w=Z:=by((try simp only[Act.put,cE,cW,cX]);exact D)):wpE P ops G R (o::r) a w:=e_p h1 h2 h3 (h4▸h)
theorem Ug{Z:Prop}(h:Z)(h2:Region.wanted o (bC ops a.tmps)=aD:=by kernel_rfl)
  (h4:wpE P ops G R r (a.put o.dst undef) w=Z:=by((try simp only[Act.put,cE,cW,cX]);exact D)):wpE P ops G R (o::r) a w:=e_u h2 (h4▸h)
end Ord
abbrev nD:=@Ord.Kg
end
namespace CrcLaw
def T(c:Nat):Nat:=c/2 ^^^(c % 2*33800)
def Tn:Nat→Nat→Nat
 |0,c=>c
 |k+1,c=>T (Tn k c)
def num:List UInt8→Nat
 | []=>0
 |x::l=>x.toNat+256*num l
def stepN(c x:Nat):Nat:=Tn 8 (c ^^^ x)
def moreN(c:Nat)(l:List UInt8):Nat:=l.foldl (fun c x=>stepN c x.toNat) c
theorem T_lt{c:Nat}(h:c<65536):T c<65536:=by
 have h1:c/2<2 ^ 16:=by omega
 have h2:c % 2*33800<2 ^ 16:=by have:=Nat.mod_lt c (show 0<2 by omega);omega
 exact Nat.xor_lt_two_pow h1 h2
theorem Tn_lt(k:Nat){c:Nat}(h:c<65536):Tn k c<65536:=by
 induction k with
 |zero=>exact h
 |succ k ih=>exact T_lt ih
theorem xor_lt{a b:Nat}(ha:a<65536)(hb:b<65536):a ^^^ b<65536:=Nat.xor_lt_two_pow (n:=16) ha hb
theorem stepN_lt{c x:Nat}(h:c<65536)(hx:x<256):stepN c x<65536:=Tn_lt 8 (xor_lt h (by omega))
theorem moreN_lt(l:List UInt8): ∀ {c:Nat},c<65536→moreN c l<65536:=by
 induction l with
 |nil=>intro c h;exact h
 |cons x l ih=>intro c h;exact ih (stepN_lt h x.toNat_lt)
theorem moreN_append(c:Nat)(a b:List UInt8):moreN c (a++b)=moreN (moreN c a) b:=by simp[moreN]
theorem moreN_snoc(c:Nat)(a:List UInt8)(x:UInt8):moreN c (a++ [x])=stepN (moreN c a) x.toNat:=by simp[moreN]
theorem xor_mod2(a b:Nat):(a ^^^ b)% 2=(a % 2+b % 2)% 2:=by
 have:=Nat.xor_mod_two_eq_one (a:=a) (b:=b);omega
theorem xor_div2(a b:Nat):(a ^^^ b)/2=a/2 ^^^ b/2:=Nat.xor_div_two
theorem bit_mul(a b k:Nat):(a ^^^ b)% 2*k=a % 2*k ^^^ b % 2*k:=by
 rw[xor_mod2];rcases Nat.mod_two_eq_zero_or_one a with h|h<;>rcases Nat.mod_two_eq_zero_or_one b with h'|h'<;>rw[h,h']<;>simp
theorem T_xor(a b:Nat):T (a ^^^ b)=T a ^^^ T b:=by
 unfold T;rw[xor_div2,bit_mul,Nat.xor_assoc,Nat.xor_assoc,←Nat.xor_assoc (b/2),Nat.xor_comm (b/2),Nat.xor_assoc]
theorem Tn_xor(k a b:Nat):Tn k (a ^^^ b)=Tn k a ^^^ Tn k b:=by
 induction k with
 |zero=>rfl
 |succ k ih=>simp only[Tn];rw[ih,T_xor]
theorem Tn_add(j k c:Nat):Tn (j+k) c=Tn j (Tn k c):=by
 induction j with
 |zero=>simp[Tn]
 |succ j ih=>rw[Nat.add_right_comm];simp only[Tn];rw[ih]
theorem T_double(n:Nat):T (2*n)=n:=by
 unfold T;simp
theorem Tn_shift(k n:Nat):Tn k (2 ^ k*n)=n:=by
 induction k with
 |zero=>simp[Tn]
 |succ k ih=>
  have e:Tn (k+1) (2 ^(k+1)*n)=Tn k (T (2 ^(k+1)*n)):=by have:=Tn_add k 1 (2 ^(k+1)*n);simpa [Tn] using this
  rw[e,Nat.pow_succ,Nat.mul_comm (2 ^ k) 2,Nat.mul_assoc,T_double,ih]
theorem xor_low(a b k:Nat)(h:a<2 ^ k):a+2 ^ k*b=a ^^^ 2 ^ k*b:=by
 refine Nat.eq_of_testBit_eq fun i=> ?_;rw[Nat.add_comm,Nat.testBit_two_pow_mul_add _ h,Nat.testBit_xor,Nat.testBit_two_pow_mul];by_cases hi:i<k
 ·simp[hi,Nat.not_le.2 hi]
 ·have h1:a.testBit i=aD:=Nat.testBit_lt_two_pow (Nat.lt_of_lt_of_le h (Nat.pow_le_pow_right (by omega) (by omega)));simp[hi,h1,Nat.le_of_not_lt hi]
def tabL:List Nat:= [0,4225,8450,12675,16900,21125,25350,29575,33800,38025,42250,46475,50700,54925,59150,63375]
def tab(n:Nat):Nat:=tabL.getD n 0
theorem tab_eq: ∀k,k<16→Tn 4 k=tab k:=by decide
theorem four_eq(c:Nat):Tn 4 c=c/16 ^^^ tab (c % 16):=by
 have h:c % 16+2 ^ 4*(c/16)=c:=by omega
 have h2:Tn 4 c=Tn 4 (c % 16 ^^^ 2 ^ 4*(c/16)):=by rw[←xor_low _ _ 4 (by omega),h]
 rw[h2,Tn_xor,Tn_shift,tab_eq _ (by omega),Nat.xor_comm]
theorem tab_lt: ∀k,tab k<65536:=by
 intro k;rcases Nat.lt_or_ge k 16 with h|h
 ·have: ∀k,k<16→tab k<65536:=by decide
  exact this k h
 ·simp[tab,tabL,List.getD_eq_getElem?_getD,h]
theorem Tn8(c:Nat):Tn 4 (Tn 4 c)=Tn 8 c:=(Tn_add 4 4 c).symm
theorem num_lt(l:List UInt8):num l<2 ^(8*l.length):=by
 induction l with
 |nil=>simp[num]
 |cons x l ih=>
  have:=x.toNat_lt;simp only[num,List.length_cons,Nat.mul_add,Nat.mul_one,Nat.pow_add];omega
end CrcLaw
section
open Go.RowKit CrcLaw
theorem FQ(c:Nat)(h:c<65536):bits .xor .u16 ((c:Int)/2) (bits .and .u16 (IntKind.u16.wrap (-bits .and .u16 (c:Int) 1)) 33800)=((T c:Nat):Int):=by
 have e1:bits .and .u16 (c:Int) 1=((c % 2:Nat):Int):=by have:=u16_and_nat c 1 (by omega) (by omega);rw[show c &&& 1=c % 2 from Nat.and_two_pow_sub_one_eq_mod c 1] at this;exact this
 rw[e1,show((c:Int)/2)=((c/2:Nat):Int) by omega];rcases Nat.mod_two_eq_zero_or_one c with h0|h0<;>rw[h0]
 ·have e2:bits .and .u16 (IntKind.u16.wrap (-((0:Nat):Int))) 33800=((0:Nat):Int):=by decide
  rw[e2,u16_xor_nat _ _ (by omega) (by omega)];simp[T,h0]
 ·have e2:bits .and .u16 (IntKind.u16.wrap (-((1:Nat):Int))) 33800=((33800:Nat):Int):=by decide
  rw[e2,u16_xor_nat _ _ (by omega) (by omega)];simp[T,h0]
theorem Sv(c b:Nat)(w:aS)(h1:c<65536)(h2:b<256):
  aU bH 211 #[O .u16 c,O aP b] w fun e w'=>e=aJ (O .u16 (stepN c b))∧w=w':=by
 have e1:=u16_xor_nat c b h1 (by omega);go_enter func211,ntmps211;go_wp2
 go_loop [0,9] (fun c' i=> ∃k:Nat,k≤8∧i=O Y k∧c'=O .u16 (Tn k (c ^^^ b))) (fun _ i=>8-(bE i).toNat)
 case atStart=>exact⟨0,by omega,D,D⟩
 case round=>
  obtain⟨k,hk,rfl,rfl⟩:=hrel;have hd:Tn k (c ^^^ b)<65536:=Tn_lt k (xor_lt h1 (by omega));by_cases fF:k<8
  ·go_wp2
   go_round
   case rel=>exact⟨k+1,by omega,by go_num,by rw[FQ _ hd];rfl⟩
   case measure=>simp[bE];omega
  ·obtain rfl:k=8:=by omega
   go_wp2;go_ret;exact⟨D,D⟩
theorem IP(w:aS)(k:Nat)(h:k<16):(w.alloc (Obj.cells #[O .u16 0,O .u16 4225,O .u16 8450,O .u16 12675,O .u16 16900,O .u16 21125,O .u16 25350,O .u16 29575,O .u16 33800,O .u16 38025,O .u16 42250,O .u16 46475,O .u16 50700,O .u16 54925,O .u16 59150,O .u16 63375] 555)).cell? ⟨w.heap.size,k,J⟩=aE (O .u16 (tab k)):=by
 rcases(by omega:k=0∨k=1∨k=2∨k=3∨k=4∨k=5∨k=6∨k=7∨k=8∨k=9∨k=10∨k=11∨k=12∨k=13∨k=14∨k=15) with rfl|rfl|rfl|rfl|rfl|rfl|rfl|rfl|rfl|rfl|rfl|rfl|rfl|rfl|rfl|rfl<;>simp[tab,tabL]
theorem R4(c:Nat)(w:aS)(h:c<65536):
  aU bH 302 #[O .u16 (c:Int)] w fun e w'=>e=aJ (O .u16 (Tn 4 c))∧aV w.heap.size w w':=by
 have e1:bits .and .u16 (c:Int) 15=((c % 16:Nat):Int):=by have:=u16_and_nat c 15 (by omega) (by omega);rw[show c &&& 15=c % 16 from Nat.and_two_pow_sub_one_eq_mod c 4] at this;exact this
 have e3:bits .xor .u16 ((c:Int)/16) ((tab (c % 16):Nat):Int)=((Tn 4 c:Nat):Int):=by rw[show((c:Int)/16)=((c/16:Nat):Int) by omega,u16_xor_nat _ _ (by omega) (tab_lt _),four_eq]
 have E3:=bK e3;clear e3;obtain⟨k,hk⟩: ∃k,k=c % 16:=⟨_,D⟩;rw[←hk] at e1 E3;have fF:k<16:=by omega
 have hc:=IP w k fF;clear hk;go_enter func302,ntmps302;go_wp2;go_ret;exact⟨Nw E3.out,(bP _ _).alloc (bM _) _⟩
theorem Jk(c:Nat)(A:Option aW)(n cap B:Nat)(l:List UInt8)(w:aS)(h1:c<65536)(h:Rd w B 1 A n cap (bv l))(hB:B≤w.heap.size):
  aU bH 255 #[O .u16 c,aL A n cap] w fun e w'=>e=aJ (O .u16 (moreN c l))∧aV w.heap.size w w':=by
 have hn:=h.le;have hm:=h.max;unfold bB at hm;have hl:=h.blen;go_enter func255,ntmps255;clear hl;go_wp2;go_loopw [0,6,9] (fun c' _ i wr=> ∃k:Nat,k≤n∧i=O Y k∧c'=O .u16 (moreN c (l.take k))∧aV w.heap.size w wr) (fun _ _ i _=>n-(bE i).toNat);case atStart=>exact⟨0,by omega,D,D,bP _ _⟩
 case round=>
  obtain⟨k,hk,rfl,rfl,hb⟩:=hrel;have hd:moreN c (l.take k)<65536:=moreN_lt _ h1;by_cases fF:k<n
  ·obtain⟨ad,x,rfl,hx,hc⟩:=(h.up (hb.mono hB)).byte fF;have hs:moreN c (l.take (k+1))=Tn 4 (Tn 4 (moreN c (l.take k)^^^ x.toNat)):=by rw[fD hx,moreN_snoc,Tn8];rfl
   have Hs:=bK hs;clear hs hx;generalize moreN c (l.take k)=d at*;have WS:x.toNat<256:=x.toNat_lt;have e1:=u16_xor_nat d x.toNat hd (by omega);have hdx:d ^^^ x.toNat<65536:=xor_lt hd (by omega);have hd4:=Tn_lt 4 hdx;go_wp2_with fail;refine(R4 _ _ hdx).mono ?_;rintro e w1 ⟨rfl,hb1⟩;go_wp2_with fail;refine(R4 _ _ hd4).mono ?_;rintro e w2 ⟨rfl,hb2⟩;have hb':aV w.heap.size w w2:=(hb.trans (hb1.mono hb.size)).trans (hb2.mono (Nat.le_trans hb.size hb1.size));clear hb1 hb2 hc;go_wp2;go_roundw;case rel=>exact⟨k+1,by omega,by go_num,Ei (VQ Hs.out.symm),hb'⟩
   case measure=>simp[bE];omega
  ·obtain rfl:k=n:=by omega
   have hl:=h.blen;have ht:l.take k=l:=List.take_of_length_le (by omega);clear hl;rw[ht];go_wp2;go_ret;exact⟨D,hb⟩
theorem BA(A:Option aW)(n cap B:Nat)(ls:List (List UInt8))(w:aS)(h:RdL w B A n cap ls)(hB:B≤w.heap.size):
  aU bH 212 #[aL A n cap] w fun e w'=>e=aJ (O .u16 (moreN 65535 ls.flatten))∧aV w.heap.size w w':=by
 obtain⟨hn,hm,hl⟩:n≤cap∧cap≤bB∧ls.length=n:=by obtain⟨vs,h1,h2,_⟩:=h;exact⟨h1.le,h1.max,h2⟩
 have Hl:=bK hl;clear hl;unfold bB at hm;go_enter func212,ntmps212;go_wp2;go_loopw [3,5,8] (fun c' _ i wr=> ∃k:Nat,k≤n∧i=O Y k∧c'=O .u16 (moreN 65535 (ls.take k).flatten)∧aV w.heap.size w wr) (fun _ _ i _=>n-(bE i).toNat);case atStart=>exact⟨0,by omega,D,D,bP _ _⟩
 case round=>
  obtain⟨k,hk,rfl,rfl,hb⟩:=hrel;have hd:moreN 65535 (ls.take k).flatten<65536:=moreN_lt _ (by omega);by_cases fF:k<n
  ·obtain⟨ad,l,A',n',c',rfl,hx,hc,hr⟩:=(h.up (hb.mono hB)).at_ fF;have hs:moreN 65535 (ls.take (k+1)).flatten=moreN (moreN 65535 (ls.take k).flatten) l:=by rw[zO hx,moreN_append]
   have Hs:=bK hs;clear hs hx;generalize moreN 65535 (ls.take k).flatten=d at*;go_wp2_with fail;refine(Jk _ _ _ _ _ _ _ hd hr (Nat.le_trans hB hb.size)).mono ?_;rintro e w1 ⟨rfl,hb1⟩;have hb':aV w.heap.size w w1:=(hb.trans (hb1.mono hb.size));clear hb1 hc;go_wp2;go_roundw;case rel=>exact⟨k+1,by omega,by go_num,Ei (VQ Hs.out.symm),hb'⟩
   case measure=>simp[bE];omega
  ·obtain rfl:k=n:=by omega
   have ht:ls.take k=ls:=List.take_of_length_le (by rw[Hl.out];omega);rw[ht];go_wp2;go_ret;exact⟨D,hb⟩
end
section
open Go.RowKit
def aG7{α:Type}(P:aZ)(n:Nat)(g:Nat)(lb:Array aT)(E:α→Array aT→aS→Prop)(K U:Nat→Prop)(xs:List α)(W0:aS→Prop):Prop:=
 ∀(l:Nat) (aB Jx:List α→aS→Prop) (W:aS),W0 W→(∀pre A B,aB pre A→Aw U A B→aB pre B)→(∀pre A B,Jx pre A→Aw U A B→Jx pre B)→
  (∀pre x vs W1,aB pre W1→(pre++ [x])<+:xs→E x vs W1→YieldAt Fence.wide (n-1) P l vs W1 fun e W'=>
   (e=aJ (aG aF)∧aB (pre++ [x]) W'∧Keeps K W1 W')∨(e=aJ (aG aD)∧Jx (pre++ [x]) W'))→
  aB [] W→
  CallsIn Fence.wide n P g (#[.func (.yield l) #[] #[]]++lb) W fun e W'=>(∃v,e=aJ v)∧(aB xs W'∨∃pre,pre<+:xs∧Jx pre W')
end
end Go.Proofs.YtfoabhdppkjmbaaGreat
