import Derived.Test.YtfoabhdppkjmbaaGreatRows
import Derived.WalkKit
import Derived.WalkSpells
import Derived.WalkLawsBesides
import Derived.Deep.AppendLies
import Derived.Deep.Draws
import Derived.Deep.MidRow
import Derived.Maps.AppendAt
import Derived.Lib.Hide
import Derived.Handy
import Derived.Lib.SlBytesConst
import Derived.Lib.SliceRun
set_option linter.unusedSimpArgs false
set_option linter.unusedVariables false
set_option maxHeartbeats 1000000
set_option maxRecDepth 10000
namespace Go.Proofs.YtfoabhdppkjmbaaGreat
open Bool renaming false→aD,true→aF
open Go renaming Addr→aW,Calls→aU,Ending→aX,Oper→bA,Program→aZ,TypeId→aY,Value→aT,World→aS,execOp→bD,maxLen→bB,typeInfo→bF
open Go.Ending renaming returned→aJ
open Go.IntKind renaming i64→Y,u8→aP
open Go.Obj renaming cells→aI
open Go.Proofs.Tryz renaming prog→bH
open Go.RowKit renaming Below→aV,intOf→bE
open Go.Value renaming int→O,slice→aL,string→aH
open Option renaming none→J,some→aE
open Go.Proofs.Tryz
theorem D{α:Sort _}{a:α}:a=a:=rfl
section
open Go.RowKit
abbrev bM:=@Nat.le_refl
abbrev bS:=@heap_alloc_new
abbrev bX:=@if_neg
abbrev cF:=@List.getElem?_eq_getElem
abbrev cL:=@World.size_alloc
abbrev cU:=@List.eq_nil_of_length_eq_zero
abbrev dE:=@run_underlying
abbrev dL:=@Array.getElem?_eq_getElem
abbrev eB:=@Sem.run_bind
abbrev eD:=@Result.andThen_ok
abbrev eE:=@List.map_cons
abbrev eG:=@List.map_toArray
abbrev fH:=@List.length_take
abbrev fK:=@List.map_nil
abbrev fT:=@Nat.zero_le
abbrev iA:=@List.length_drop
abbrev iD:=@Nat.lt_or_ge
abbrev iO:=@Nat.lt_succ_self
abbrev iU:=@Array.getElem?_eq_none
abbrev jN:=@Nat.eq_zero_or_pos
abbrev jU:=@Sem.run_pure
abbrev pN:=@List.getElem?_take
abbrev pX:=@Nat.lt_irrefl
abbrev rC:=@Nat.mul_one
abbrev tZ:=@wpList_plain
abbrev wG:=@Nat.min_eq_left
def Stop(p:Prop):Prop:=p
theorem rP{p:Prop}(h:Stop p):p:=h
theorem eL{p:Prop}(h:p):Stop p:=h
theorem Nw{k:IntKind}{a b:Int}(h:a=b):Ending.returned (.int k a)=aJ (.int k b):=by rw[h]
theorem Ei{k:IntKind}{a b:Int}(h:a=b):Value.int k a= .int k b:=by rw[h]
theorem VQ{a b:Nat}(h:a=b):(a:Int)=(b:Int):=by rw[h]
theorem lL(a:aW)(n:Nat):(a.add n).block=a.block:=by unfold Addr.add;split<;>rfl
theorem FF(a:aW)(i j:Nat):(a.add i).add j=a.add (i+j):=by
 unfold Addr.add;by_cases hi:i=0<;>by_cases hj:j=0<;>simp[hi,hj,Nat.add_assoc]
def bv(l:List UInt8):List aT:=l.map fun x=>O aP (x.toNat:Int)
theorem xF(l:List UInt8):(bv l).length=l.length:=by simp[bv]
theorem Pc(a b:List UInt8):bv (a++b)=bv a++bv b:=by simp[bv]
theorem RN(l:List UInt8)(k:Nat):bv (l.take k)=(bv l).take k:=by simp[bv]
theorem Yd(l:List UInt8)(k:Nat):bv (l.drop k)=(bv l).drop k:=by simp[bv]
theorem F6(l:List UInt8): ∀u∈bv l,u.oneCell'=aF:=by
 intro u hu;obtain⟨x,_,rfl⟩:=List.mem_map.1 hu;rfl
theorem kq{l:List UInt8}{k:Nat}{x:UInt8}(h:l[k]?=aE x):(bv l)[k]?=aE (O aP (x.toNat:Int)):=by simp[bv,h]
theorem fD{α:Type}{l:List α}{k:Nat}{x:α}(h:l[k]?=aE x):l.take (k+1)=l.take k++ [x]:=by
 rw[List.take_add_one,h];rfl
structure Rd(w:aS)(B size:Nat)(A:Option aW)(n c:Nat)(xs:List aT):Prop where
 len:xs.length=n*size
 le:n≤c
 max:c≤bB
 at_:0<n→∃ad,A=aE ad∧ad.block<B∧∀j u,xs[j]?=aE u→w.cell? (ad.add j)=aE u
section
variable {w w':World} {B B' size n c:Nat} {A:Option Addr} {xs:List Value} {l:List UInt8}
theorem Rd.none_(w:aS)(B size:Nat):Rd w B size J 0 0 []:=⟨by simp,bM _,fT _,fun h=>absurd h (pX _)⟩
theorem Rd.keep(h:Rd w B size A n c xs)(hk: ∀p:aW,p.block<B→w'.cell? p=w.cell? p):Rd w' B size A n c xs:=
 ⟨h.len,h.le,h.max,fun hn=>by
  obtain⟨ad,e,hb,hc⟩:=h.at_ hn
  exact⟨ad,e,hb,fun j u hu=>(hk _ (by rw[lL];exact hb)).trans (hc j u hu)⟩⟩
theorem Rd.more(h:Rd w B size A n c xs)(hB:B≤B'):Rd w B' size A n c xs:=
 ⟨h.len,h.le,h.max,fun hn=>by
  obtain⟨ad,e,hb,hc⟩:=h.at_ hn
  exact⟨ad,e,by omega,hc⟩⟩
theorem Rd.up(h:Rd w B size A n c xs)(hb:aV B w w'):Rd w' B size A n c xs:=h.keep fun _ hp=>hb.cell hp
theorem Rd.nx(h:Rd w w.heap.size size A n c xs)(hb:aV w.heap.size w w'):Rd w' w'.heap.size size A n c xs:=(h.up hb).more hb.size
theorem Rd.one(h:Rd w B 1 A n c xs){k:Nat}(hk:k<n): ∃ad u,A=aE ad∧xs[k]?=aE u∧w.cell? (ad.add k)=aE u:=by
 obtain⟨ad,e,hb,hc⟩:=h.at_ (by omega);have hl:k<xs.length:=by have:=h.len;omega
 exact⟨ad,xs[k],e,cF hl,hc k _ (cF hl)⟩
theorem Rd.blen(h:Rd w B 1 A n c (bv l)):l.length=n:=by have:=h.len;rw[xF] at this;omega
theorem Rd.byte(h:Rd w B 1 A n c (bv l)){k:Nat}(hk:k<n): ∃ad x,A=aE ad∧l[k]?=aE x∧w.cell? (ad.add k)=aE (O aP (x.toNat:Int)):=by
 obtain⟨ad,e,hb,hc⟩:=h.at_ (by omega);have hl:k<l.length:=by have:=h.blen;omega
 exact⟨ad,l[k],e,cF hl,hc k _ (kq (cF hl))⟩
theorem Rd.drop(h:Rd w B size A n c xs){k:Nat}(hk:k≤n):Rd w B size (if c=k then A else A.map (·.add (k*size))) (n-k) (c-k) (xs.drop (k*size)):=by
 refine⟨by rw[iA,h.len,Nat.sub_mul],by have:=h.le;omega,by have:=h.max;omega,fun hn=> ?_⟩;obtain⟨ad,rfl,hb,jI⟩:=h.at_ (by omega);rw[bX (by have:=h.le;omega)];refine⟨ad.add (k*size),D,by rw[lL];exact hb,fun j u hu=> ?_⟩;rw[FF];exact jI _ u (by rw[←hu,List.getElem?_drop])
theorem Rd.take(h:Rd w B size A n c xs){k:Nat}(hk:k≤n):Rd w B size A k c (xs.take (k*size)):=by
 refine⟨by rw[fH,h.len];exact wG (Nat.mul_le_mul_right _ hk),by have:=h.le;omega,h.max,fun hn=> ?_⟩;obtain⟨ad,rfl,hb,jI⟩:=h.at_ (by omega);refine⟨ad,D,hb,fun j u hu=>jI j u ?_⟩;rw[pN] at hu;split at hu
 ·exact hu
 ·cases hu
theorem Rd.of_own{base:Nat}{e:aY}{v:aT}(h:w.ownsRow base e size v n xs): ∃A c,v=aL A n c∧Rd w w.heap.size size A n c xs:=by
 rcases h.2 with⟨rfl,rfl⟩|⟨g,cap,cur,rfl,hg,hh,h1,h2,h3,h4⟩
 ·refine⟨J,0,D,?_⟩;have:xs= []:=cU (by simpa using h.1);subst this;exact Rd.none_ _ _ _
 ·refine⟨_,_,D,h.1,h1,h2,fun hn=>⟨_,D,?_,h.cells (g:=g) D⟩⟩;rcases iD g w.heap.size with fF|zB
  ·exact fF
  ·rw[iU zB] at hh;cases hh
theorem Rd.own{base:Nat}{e:aY}(h:w.ownsRow base e size (aL A n c) n xs):Rd w w.heap.size size A n c xs:=by
 obtain⟨A',c',hv,hr⟩:=Rd.of_own h;injection hv with h1 h2 h3;subst h1;subst h3;exact hr
end
theorem O4{w:aS}{base:Nat}{e:aY}{size:Nat}{v:aT}{n:Nat}{xs:List aT}(h:w.ownsRow base e size v n xs): ∃A c,v=aL A n c:=by
 obtain⟨A,c,hv,_⟩:=Rd.of_own h;exact⟨A,c,hv⟩
theorem jK{w w':aS}{base B:Nat}{e:aY}{size:Nat}{v:aT}{n:Nat}{xs:List aT}(h:w.ownsRow base e size v n xs)(hb:aV B w w')(hB:w.heap.size≤B):w'.ownsRow base e size v n xs:=by
 refine⟨h.1,?_⟩;rcases h.2 with h2|⟨g,cap,cur,hv,hg,hh,r⟩
 ·exact .inl h2
 ·refine .inr ⟨g,cap,cur,hv,hg,?_,r⟩;rw[hb.block g ?_]
  ·exact hh
  ·rcases iD g w.heap.size with fF|zB
   ·omega
   ·rw[iU zB] at hh;cases hh
theorem zJ{w:aS}{base base':Nat}{e:aY}{size:Nat}{v:aT}{n:Nat}{xs:List aT}(h:w.ownsRow base e size v n xs)(hB:base'≤base):w.ownsRow base' e size v n xs:=by
 refine⟨h.1,?_⟩;rcases h.2 with h2|⟨g,cap,cur,hv,hg,r⟩
 ·exact .inl h2
 ·exact .inr ⟨g,cap,cur,hv,by omega,r⟩
theorem Bv{w:aS}{base:Nat}{e:aY}{v:aT}{n:Nat}{l:List UInt8}(h:w.ownsRow base e 1 v n (bv l)):l.length=n:=by
 have:=h.1;rw[xF] at this;omega
theorem B4(w:aS)(base:Nat)(e:aY)(hB:base≤w.heap.size)(size:Nat):(w.alloc (aI #[] e)).ownsRow base e size (aL (aE ⟨w.heap.size,0,J⟩) 0 0) 0 []:=
 ⟨by simp,.inr ⟨w.heap.size,0,#[],D,hB,bS w _,bM _,fT _,by simp,by simp⟩⟩
theorem Ob(w:aS)(base:Nat)(e:aY)(cs:List aT)(hB:base≤w.heap.size)(hm:cs.length≤bB):
  (w.alloc (aI cs.toArray e)).ownsRow base e 1 (aL (aE ⟨w.heap.size,0,J⟩) cs.length cs.length) cs.length cs:=
 ⟨by simp,.inr ⟨w.heap.size,cs.length,cs.toArray,D,hB,bS w _,bM _,hm,by simp,by simp⟩⟩
theorem GU(w:aS)(e:aY)(l:List UInt8)(fr:Nat × Nat)(hm:l.length≤bB):Rd (w.alloc (aI (bv l).toArray e fr)) (w.heap.size+1) 1 (aE ⟨w.heap.size,0,J⟩) l.length l.length (bv l):=by
 refine⟨by simp[bv],bM _,hm,fun _=>⟨_,D,iO _,fun j u hu=> ?_⟩⟩;have e1:(⟨w.heap.size,0,J⟩:aW).add j=⟨w.heap.size,j,J⟩:=by unfold Addr.add;split<;>simp_all
 rw[e1,World.cell?,show(⟨w.heap.size,j,J⟩:aW).block=w.heap.size from D,bS w _];simpa using hu
theorem eI{a w w':aS}(h:aV a.heap.size a w)(hb:aV w.heap.size w w'):aV a.heap.size a w':=h.trans (hb.mono h.size)
theorem zh{a w w':aS}{o:Obj}(h:aV a.heap.size a w)(hb:aV (w.heap.size+1) (w.alloc o) w'):aV a.heap.size a w':=(h.alloc h.size o).trans (hb.mono (by have:=h.size;omega))
theorem qS{B:Nat}{a w:aS}(h:aV B a w)(n:Nat):aV B a (w.drewN n):=⟨h.os,h.tape,h.output,h.size,h.block⟩
theorem AB{B base:Nat}{a w w':aS}{e:aY}{size:Nat}{v:aT}{n:Nat}{xs:List aT}(h:aV B a w)(hown:w.ownsRow base e size v n xs)(hg:w.grownBy w' v.ownBlock)(hB:B≤w.heap.size)(hb:B≤base):aV B a w':=by
 refine h.grown hg hB fun k hk=> ?_;rcases hown.2 with⟨rfl,_⟩|⟨g,cap,cur,rfl,jc,_⟩
 ·simp[Value.ownBlock] at hk
 ·simp[Value.ownBlock] at hk;omega
section
variable {P:Program}
theorem Xx(w:aS)(base:Nat)(t ty e:aY)(i:TypeInfo)(z:aT)(size bytes:Nat)(ht:P.underlying t=aE (.slice e))(hi:P.info? e=aE i)(hz:i.zero=aE z)
  (ox:i.size=size) (hby:i.bytes=bytes) (Wz:z.cells.size=size) (iJ:0<size)
  (v:aT) (n:Nat) (xs:List aT) (hown:w.ownsRow base e size v n xs)
  (B:Nat) (A:Option aW) (m c:Nat) (news:List aT) (hr:Rd w B size A m c news) (h1: ∀u∈news,u.oneCell'=aF)
  (jd:n+m≤bB) (J2:(n+m)*bytes≤140737488355328) (S9:base≤w.heap.size):
  ∃v' w',(Builtin.append_ #[t,t] ty #[v,aL A m c]).run P w= .ok v' w'∧w'.ownsRow base e size v' (n+m) (xs++news)∧w.grownBy w' v.ownBlock∧
   (v'.ownBlock=v.ownBlock∨v'.ownBlock=aE w.heap.size):=by
 cases A with
 |none=>
  obtain rfl:m=0:=by
   rcases jN m with h0|h0
   ·exact h0
   ·obtain⟨ad,h,_⟩:=hr.at_ h0;cases h
  obtain rfl:news= []:=cU (by simpa using hr.len);refine⟨v,w,?_,by simpa using hown,⟨D,D,D,bM _,fun _ _ _=>rfl⟩,.inl D⟩;rcases hown.2 with⟨rfl,rfl⟩|⟨g,cap,cur,rfl,_,_,hnc,_⟩
  ·simp[Builtin.append_,dE ht,sizeOf,bF,hi,Builtin.lenOf,Builtin.firstCells]
  ·simp[Builtin.append_,dE ht,sizeOf,bF,hi,Builtin.lenOf,Builtin.firstCells,hnc,storeCells]
 |some ad=>
  have da: ∀j u,news[j]?=aE u→w.cell? (ad.add j)=aE u:=by
   rcases jN m with rfl|h0
   ·obtain rfl:news= []:=cU (by simpa using hr.len);intro j u hu;simp at hu
   ·obtain⟨ad',h,_,hc⟩:=hr.at_ h0;injection h with h;subst h;exact hc
  obtain⟨v',w',yU,h2,h3,_,h5⟩:=run_append_own_at (P:=P) w base t ty e i z size bytes ht hi hz ox hby Wz iJ v n xs hown ad m c news hr.len da h1 jd J2 S9;exact⟨v',w',yU,h2,h3,h5⟩
theorem vA{w:aS}{ops:Array bA}{rest:List bA}{a:Act}{Q:Exit→Act→aS→Prop}{d:Option Tmp}{s x:Operand}{t ty:aY}{pos:String}{af:Array Edge}
  {base:Nat} {e:aY} {i:TypeInfo} {z:aT} {size bytes:Nat} (ht:P.underlying t=aE (.slice e)) (hi:P.info? e=aE i∧i.zero=aE z∧i.size=size∧i.bytes=bytes) (Wz:z.cells.size=size) (iJ:0<size)
  {v:aT} {n:Nat} {xs:List aT} (hown:w.ownsRow base e size v n xs) (hs:a.eval s=v)
  {B:Nat} {A:Option aW} {m c:Nat} {news:List aT} (hr:Rd w B size A m c news) (hx:a.eval x=aL A m c) (h1: ∀u∈news,u.oneCell'=aF)
  {k:Nat} {ys:List aT} (hk:n+m=k) (zt:xs++news=ys)
  (jd:k≤bB) (J2:k*bytes≤140737488355328) (S9:base≤w.heap.size)
  (h: ∀A' c' w',w'.ownsRow base e size (aL A' k c') k ys→(∀ {B0:Nat} {w0:aS},aV B0 w0 w→B0≤w.heap.size→B0≤base→aV B0 w0 w')→wpList P ops Q rest (a.put d (aL A' k c')) w'):
  wpList P ops Q (⟨d,.call { callee:= .builtin .append,args:= #[s,x],argTypes:= #[t,t] },ty,pos,af,J⟩::rest) a w:=by
 subst hk;subst zt;refine tZ D fun _ hK=> ?_;obtain⟨v',w',yU,h2,h3,h4⟩:=Xx (P:=P) w base t ty e i z size bytes ht hi.1 hi.2.1 hi.2.2.1 hi.2.2.2 Wz iJ v n xs hown B A m c news hr h1 jd J2 S9;obtain⟨A',c',rfl⟩:=O4 h2;unfold Oper.wp bD;simp only[resolve,invoke,builtin,eB,jU,eD,eG,eE,fK,hs,hx,yU];exact hK _ _ (h A' c' w' h2 (fun hb hB h0=>AB hb hown h3 hB h0))
def oH(A:Option aW)(c k size:Nat):Option aW:=if c=k then A else A.map (·.add (k*size))
theorem Rd.drop'{w:aS}{B size n c:Nat}{A:Option aW}{xs:List aT}(h:Rd w B size A n c xs){k:Nat}(hk:k≤n):Rd w B size (oH A c k size) (n-k) (c-k) (xs.drop (k*size)):=h.drop hk
theorem Rd.bdrop{w:aS}{B n c:Nat}{A:Option aW}{l:List UInt8}(h:Rd w B 1 A n c (bv l)){k:Nat}(hk:k≤n):Rd w B 1 (oH A c k 1) (n-k) (c-k) (bv (l.drop k)):=by
 have:=h.drop' hk
 rwa[rC,←Yd] at this
theorem Rd.btake{w:aS}{B n c:Nat}{A:Option aW}{l:List UInt8}(h:Rd w B 1 A n c (bv l)){k:Nat}(hk:k≤n):Rd w B 1 A k c (bv (l.take k)):=by
 have:=h.take hk
 rwa[rC,←RN] at this
theorem yF{t e:aY}(ht:P.underlying t=aE (.slice e)):P.elem t=e:=by simp[Program.elem,ht]
theorem tL{t e:aY}{i:TypeInfo}(ht:P.underlying t=aE (.slice e))(hi:P.info? e=aE i)(A:Option aW)(n c h:Nat)(hc:h≤c)(w:aS):
  (Instr.slice t (aL A n c) J (aE (O Y (h:Int))) J).run P w= .ok (aL A h c) w:=by
 rw[run_slice_h w t A n c (by rw[yF ht];exact ht) Y h (by omega) (by omega),yF ht];simp[sizeOf,bF,hi,sliced];intro _;cases A<;>simp[Addr.add]
theorem rG{t e:aY}{i:TypeInfo}{size:Nat}(ht:P.underlying t=aE (.slice e))(hi:P.info? e=aE i)(hs:i.size=size)(A:Option aW)(n c k:Nat)(hk:k≤n)(w:aS):
  (Instr.slice t (aL A n c) (aE (O Y (k:Int))) J J).run P w= .ok (aL (oH A c k size) (n-k) (c-k)) w:=by
 rw[run_slice_l w t A n c (by rw[yF ht];exact ht) Y k (by omega) (by omega),yF ht];simp[sizeOf,bF,hi,sliced,oH,hs]
theorem Dd{t e:aY}{i:TypeInfo}{size:Nat}(ht:P.underlying t=aE (.slice e))(hi:P.info? e=aE i)(hs:i.size=size)(A:Option aW)(n c k h:Nat)(hk:k≤h)(hc:h≤c)(w:aS):
  (Instr.slice t (aL A n c) (aE (O Y (k:Int))) (aE (O Y (h:Int))) J).run P w= .ok (aL (oH A c k size) (h-k) (c-k)) w:=by
 rw[run_slice_lh w t A n c (by rw[yF ht];exact ht) Y Y k h (by omega) (by omega) (by omega),yF ht];simp[sizeOf,bF,hi,sliced,oH,hs]
theorem Io{t e:aY}{i:TypeInfo}(ht:P.underlying t=aE (.slice e))(hi:P.info? e=aE i)(A:Option aW)(n c h:Nat)(hc:h≤c)(w:aS):
  (Instr.slice t (aL A n c) J (aE (O Y (h:Int))) (aE (O Y (h:Int)))).run P w= .ok (aL A h h) w:=by
 rw[run_slice_hm w t A n c (by rw[yF ht];exact ht) Y Y h h (by omega) (by omega) (by omega),yF ht];simp[sizeOf,bF,hi,sliced];intro _;cases A<;>simp[Addr.add]
theorem Ji{w w':aS}{ops:Array bA}{rest:List bA}{a:Act}{Q:Exit→Act→aS→Prop}{d:Option Tmp}{s x:Operand}{ts:Array aY}{ty:aY}{pos:String}{af:Array Edge}
  {v y r:aT} (hs:a.eval s=v) (hx:a.eval x=y) (yU:(Builtin.append_ ts ty #[v,y]).run P w= .ok r w') (h:wpList P ops Q rest (a.put d r) w'):
  wpList P ops Q (⟨d,.call { callee:= .builtin .append,args:= #[s,x],argTypes:=ts },ty,pos,af,J⟩::rest) a w:=by
 refine tZ D fun _ hK=> ?_;unfold Oper.wp bD;simp only[resolve,invoke,builtin,eB,jU,eD,eG,eE,fK,hs,hx,yU];exact hK _ _ h
theorem SE(w:aS)(src dst e:aY)(hs:P.underlying src=aE (.slice e))(he:P.underlying e=aE (.int aP))(hd:P.underlying dst=aE .string){B:Nat}{A:Option aW}{n c:Nat}{l:List UInt8}(h:Rd w B 1 A n c (bv l)):
  (convert src dst (aL A n c)).run P w= .ok (aH ⟨l.toArray⟩) w:=by
 cases A with
 |none=>
  have hn:n=0:=by
   rcases jN n with h0|h0
   ·exact h0
   ·obtain⟨ad,h,_⟩:=h.at_ h0;cases h
  obtain rfl:l= []:=cU (by rw[h.blen,hn]);rw[run_convert_bytes_string w src dst e _ n c hs he hd];simp[Conv.bytesToString];rfl
 |some ad=>
  have jI: ∀j u,(bv l)[j]?=aE u→w.cell? (ad.add j)=aE u:=by
   rcases jN n with h0|h0
   ·obtain rfl:l= []:=cU (by rw[h.blen,h0]);intro j u hu;simp[bv] at hu
   ·obtain⟨ad',h,_,hc⟩:=h.at_ h0;injection h with h;subst h;exact hc
  have hl:(loadCells ad n).run P w= .ok ((l.map fun x=>(x.toNat:Int)).map (Value.int aP)).toArray w:=by have:=run_loadCells_list (P:=P) w ad (bv l) jI;rw[xF,h.blen] at this;simpa [bv,Function.comp_def] using this
  rw[run_convert_bytes_string w src dst e _ n c hs he hd,run_bytesToString w _ n c _ hl,foldl_push_bytes];simp[ByteArray.empty,ByteArray.emptyWithCapacity,Function.comp_def];rfl
end
theorem bL{w:aS}{g e:Nat}{cs:Array aT}{fr:Nat × Nat}{i:Nat}{v:aT}(h:w.heap[g]?=aE (aI cs e fr))(hi:cs[i]?=aE v):w.cell? ⟨g,i,J⟩=aE v:=by
 rw[World.cell?,show(⟨g,i,J⟩:aW).block=g from D,h];exact hi
theorem bZ{w:aS}{g e:Nat}{cs:Array aT}{i:Nat}(h:w.heap[g]?=aE (aI cs e)):w.frozen? ⟨g,i,J⟩=aD:=by
 rw[World.frozen?,show(⟨g,i,J⟩:aW).block=g from D,h];simp
theorem cN{w:aS}{g i:Nat}{cs:Array aT}{t:aY}{fr:Nat × Nat}(h:w.heap[g]?=aE (aI cs t fr))(v:aT):(w.setCell ⟨g,i,J⟩ v).heap[g]?=aE (aI (cs.setIfInBounds i v) t fr):=by
 obtain⟨fF,hk⟩:=Array.getElem?_eq_some_iff.1 h;show(w.heap.modify g _)[g]?=_;rw[dL (by rw[Array.size_modify];exact fF),Array.getElem_modify_self,hk];rfl
theorem Ek(w:aS)(o1 o2:Obj):((w.alloc o1).alloc o2).heap[w.heap.size+1]?=aE o2:=by
 have:=bS (w.alloc o1) o2
 rwa[cL] at this
theorem bV{w w':aS}{g:Nat}{o:Obj}{B:Nat}(h:w.heap[g]?=aE o)(hb:aV B w w')(hg:g<B):w'.heap[g]?=aE o:=(hb.block g hg).trans h
theorem Du{w:aS}{base:Nat}{e:aY}{size n:Nat}{v:aT}{xs:List aT}(h:w.ownsRow base e size v n xs){g i:Nat}(hg:g<base)(u:aT):(w.setCell ⟨g,i,J⟩ u).ownsRow base e size v n xs:=ownsRow_setCell_below h hg u
theorem jT{w:aS}{g e:Nat}{cs:Array aT}{fr:Nat × Nat}{l:List aT}(h:w.heap[g]?=aE (aI cs e fr))(o:Nat)(hl: ∀j v,l[j]?=aE v→cs[o+j]?=aE v):w.rangeAt g o l:=fun j v hv=>bL h (hl j v hv)
theorem Rd.drew{w:aS}{B size n c:Nat}{A:Option aW}{xs:List aT}(h:Rd w B size A n c xs):Rd w.drew B size A n c xs:=h.keep fun _ _=>rfl
theorem j7{w:aS}{b o:Nat}{cs:List aT}(h:w.rangeAt b o cs):w.drew.rangeAt b o cs:=h
theorem iY{P:aZ}{w:aS}{ops:Array bA}{rest:List bA}{a:Act}{Q:Exit→Act→aS→Prop}{d:Option Tmp}{s x:Operand}{t ty:aY}{pos:String}{af:Array Edge}
  {base:Nat} {e:aY} {i:TypeInfo} {z:aT} {size bytes:Nat} (ht:P.underlying t=aE (.slice e)) (hi:P.info? e=aE i∧i.zero=aE z∧i.size=size∧i.bytes=bytes) (Wz:z.cells.size=size) (iJ:0<size)
  {v:aT} {n:Nat} {xs:List aT} (hown:w.ownsRow base e size v n xs) (hs:a.eval s=v)
  {B:Nat} {A:Option aW} {m c:Nat} {news:List aT} (hr:Rd w B size A m c news) (hx:a.eval x=aL A m c) (h1: ∀u∈news,u.oneCell'=aF)
  {k:Nat} {ys:List aT} (hk:n+m=k) (zt:xs++news=ys)
  (jd:k≤bB) (J2:k*bytes≤140737488355328) (S9:base≤w.heap.size)
  (h: ∀A' c' w',w'.ownsRow base e size (aL A' k c') k ys→w.grownBy w' v.ownBlock→((Value.slice A' k c').ownBlock=v.ownBlock∨(Value.slice A' k c').ownBlock=aE w.heap.size)→wpList P ops Q rest (a.put d (aL A' k c')) w'):
  wpList P ops Q (⟨d,.call { callee:= .builtin .append,args:= #[s,x],argTypes:= #[t,t] },ty,pos,af,J⟩::rest) a w:=by
 subst hk;subst zt;refine tZ D fun _ hK=> ?_;obtain⟨v',w',yU,h2,h3,h4⟩:=Xx (P:=P) w base t ty e i z size bytes ht hi.1 hi.2.1 hi.2.2.1 hi.2.2.2 Wz iJ v n xs hown B A m c news hr h1 jd J2 S9;obtain⟨A',c',rfl⟩:=O4 h2;unfold Oper.wp bD;simp only[resolve,invoke,builtin,eB,jU,eD,eG,eE,fK,hs,hx,yU];exact hK _ _ (h A' c' w' h2 h3 h4)
abbrev iH:=@Rd.none_
abbrev oA:=@Rd.own
abbrev bK:=@Lib.hid
abbrev bO:=@And.intro
abbrev bP:=@Below.refl
abbrev cZ:=@List.length_append
abbrev dB:=@underlying3
abbrev dF:=@World.ownsRow_nil
abbrev dH:=@underlying22
abbrev eF:=@List.nil_append
abbrev eW:=@info_parts
abbrev fV:=@IntWalk.i64_in
abbrev fZ:=@Nat.zero_add
abbrev gD:=@congrArg
abbrev nJ:=@List.take_append_drop
abbrev pS:=@Int.natCast_mul
abbrev qD:=@Lib.run_eql_slice_nil
abbrev rV:=@List.flatten_append
abbrev tE:=@Option.isNone_some
abbrev tF:=@Option.isNone_none
theorem nP:(Tryz.prog.info? 5).map (fun i=>(i.zero,i.size,i.bytes))=aE (aE (O aP 0),1,1):=by kernel_rfl
def RetB(w:aS)(l:List UInt8)(e:aX)(w':aS):Prop:=
 ∃A c n,e=aJ (aL A n c)∧w'.ownsRow w.heap.size 5 1 (aL A n c) n (bv l)∧aV w.heap.size w w'
theorem RetB.back{w wc w':aS}{l:List UInt8}{e:aX}(hb:aV w.heap.size w wc)(h:RetB wc l e w'):RetB w l e w':=by
 obtain⟨A,c,n,rfl,hown,hb'⟩:=h;exact⟨A,c,n,D,zJ hown hb.size,eI hb hb'⟩
def RdL(w:aS)(B:Nat)(A:Option aW)(n c:Nat)(ls:List (List UInt8)):Prop:=
 ∃vs,Rd w B 1 A n c vs∧ls.length=n∧∀(i:Nat) (l:List UInt8),ls[i]?=aE l→∃A' n' c',vs[i]?=aE (aL A' n' c')∧Rd w B 1 A' n' c' (bv l)
theorem RdL.up{w w':aS}{B n c:Nat}{A:Option aW}{ls:List (List UInt8)}(h:RdL w B A n c ls)(hb:aV B w w'):RdL w' B A n c ls:=by
 obtain⟨vs,h1,h2,h3⟩:=h;refine⟨vs,h1.up hb,h2,fun i l hl=> ?_⟩;obtain⟨A',n',c',h4,h5⟩:=h3 i l hl;exact⟨A',n',c',h4,h5.up hb⟩
theorem RdL.at_{w:aS}{B n c k:Nat}{A:Option aW}{ls:List (List UInt8)}(h:RdL w B A n c ls)(hk:k<n):
  ∃ad l A' n' c',A=aE ad∧ls[k]?=aE l∧w.cell? (ad.add k)=aE (aL A' n' c')∧Rd w B 1 A' n' c' (bv l):=by
 obtain⟨vs,h1,h2,h3⟩:=h;obtain⟨ad,u,e,hu,hc⟩:=h1.one hk;obtain⟨A',n',c',h4,h5⟩:=h3 k _ (cF (by omega));rw[hu] at h4;injection h4 with h4;subst h4;exact⟨ad,_,A',n',c',e,cF (by omega),hc,h5⟩
theorem RdL.lit{w:aS}{B e:Nat}(vs:List aT)(ls:List (List UInt8))(hl:ls.length=vs.length)(hm:vs.length≤bB)(hB:B≤w.heap.size)
  (h: ∀(i:Nat) (l:List UInt8),ls[i]?=aE l→∃A' n' c',vs[i]?=aE (aL A' n' c')∧Rd w B 1 A' n' c' (bv l)):
  RdL (w.alloc (aI vs.toArray e)) (w.heap.size+1) (aE ⟨w.heap.size,0,J⟩) vs.length vs.length ls:=by
 refine⟨vs,⟨by simp,bM _,hm,fun _=>⟨_,D,iO _,fun j u hu=> ?_⟩⟩,hl,fun i l hi=> ?_⟩
 ·have e1:(⟨w.heap.size,0,J⟩:aW).add j=⟨w.heap.size,j,J⟩:=by unfold Addr.add;split<;>simp_all
  rw[e1,World.cell?,show(⟨w.heap.size,j,J⟩:aW).block=w.heap.size from D,bS w _];simpa using hu
 ·obtain⟨A',n',c',h4,h5⟩:=h i l hi;exact⟨A',n',c',h4,(h5.up ((bP B w).alloc hB _)).more (by omega)⟩
theorem RdL.lit1{w:aS}{B e n1 c1:Nat}{A1:Option aW}{l1:List UInt8}(hB:B≤w.heap.size)(h1:Rd w B 1 A1 n1 c1 (bv l1)):
  RdL (w.alloc (aI #[aL A1 n1 c1] e)) (w.heap.size+1) (aE ⟨w.heap.size,0,J⟩) 1 1 [l1]:=
 RdL.lit (B:=B) [aL A1 n1 c1] [l1] D (by simp[bB]) hB (fun i l hi=>by
  match i,hi with
  |0,hi=>simp at hi;subst hi;exact⟨_,_,_,D,h1⟩)
theorem RdL.lit2{w:aS}{B e n1 c1 n2 c2:Nat}{A1 A2:Option aW}{l1 l2:List UInt8}(hB:B≤w.heap.size)(h1:Rd w B 1 A1 n1 c1 (bv l1))(h2:Rd w B 1 A2 n2 c2 (bv l2)):
  RdL (w.alloc (aI #[aL A1 n1 c1,aL A2 n2 c2] e)) (w.heap.size+1) (aE ⟨w.heap.size,0,J⟩) 2 2 [l1,l2]:=
 RdL.lit (B:=B) [aL A1 n1 c1,aL A2 n2 c2] [l1,l2] D (by simp[bB]) hB (fun i l hi=>by
  match i,hi with
  |0,hi=>simp at hi;subst hi;exact⟨_,_,_,D,h1⟩
  |1,hi=>simp at hi;subst hi;exact⟨_,_,_,D,h2⟩)
theorem zO{ls:List (List UInt8)}{k:Nat}{l:List UInt8}(h:ls[k]?=aE l):(ls.take (k+1)).flatten=(ls.take k).flatten++l:=by
 rw[fD h];simp
theorem j8(ls:List (List UInt8))(k:Nat):(ls.take k).flatten.length≤ls.flatten.length:=by
 have h:=gD List.length (gD List.flatten (nJ k ls));rw[rV,cZ] at h;omega
theorem Fi(A:Option aW)(n c B:Nat)(l:List UInt8)(w:aS)(h:Rd w B 1 A n c (bv l))(hB:B≤w.heap.size)(hn:n≤70368744177664):
  aU bH 217 #[aL A n c] w (RetB w l):=by
 obtain⟨i0,hi⟩:=eW nP;have hl:=h.blen;have Hl:=bK hl;clear hl;have hq:=qD (P:=bH) w 22 5 A n c 0 0 dH
 cases A with
 |none=>
  have Ao:n=0:=by
   rcases jN n with h0|h0
   ·exact h0
   ·obtain⟨ad,h,_⟩:=h.at_ h0;cases h
  obtain rfl:l= []:=cU (by rw[Hl.out,Ao]);simp only[tF] at hq;clear Ao;go_enter func217,ntmps217;go_wp2;go_ret;exact⟨J,0,0,D,dF _ _ _ _,bP _ _⟩
 |some ad=>
  simp only[tE] at hq;go_enter func217,ntmps217;go_wp2_with(at_builtin;refine rP ?_);refine eL (vA (base:=w.heap.size) (n:=0) (xs:= []) dH hi D (by omega) (B4 _ _ _ (bM _) 1) D (h.up ((bP _ _).alloc hB _)) D (F6 _) (fZ _) (eF _) (by unfold bB;omega) (by omega) (by simp) ?_);intro A' c' w' hown hup;have hb:aV w.heap.size w w':=hup ((bP _ _).alloc (bM _) _) (by simp) (bM _);clear hup hq;go_wp2;go_ret;exact⟨A',c',n,D,hown,hb⟩
theorem Kt{P:aZ}(w:aS)(t u ty e:aY)(i:TypeInfo)(z:aT)(ht:P.underlying t=aE (.slice e))(hu:P.underlying u=aE (.int Y))(hi:P.info? e=aE i)(hz:i.zero=aE z)
  (n:Nat) (h0:0<n) (jd:n≤9223372036854775807) (hs:0<i.size) (P3:n*i.bytes≤281474976710656):
  (Builtin.append_ #[t,u] ty #[aL J 0 0,O Y n]).run P w=
   .ok (aL (aE ⟨w.heap.size,0,J⟩) n (grownCap w n 0 e)) (w.drew.alloc (aI (Builtin.zeroCells z.cells n++Builtin.zeroCells z.cells (grownCap w n 0 e-n)) e)):=by
 have hn:n≠0:=by omega
 have hw:IntKind.i64.wrap (n:Int)=n:=fV _ (by omega);have h1: ¬((n:Int)<0):=by omega
 have h2: ¬(281474976710656<(n:Int)*(i.bytes:Int)):=by
  have:((n*i.bytes:Nat):Int)≤281474976710656:=by omega
  rw[pS] at this;omega
 have zv: ¬(9223372036854775807<(n:Int)):=by omega
 have zw: ¬(281474976710656<Builtin.nextslicecap n 0*i.bytes):=by rw[nextslicecap_zero h0];omega
 have hs':n*i.size≠0:=Nat.mul_ne_zero hn (by omega);simp[Builtin.append_,dE ht,dE hu,sizeOf,bF,zeroValue,hi,hz,hn,zv,zw,hw,h1,h2,hs',asInt,asIntOf,Question.forced,run_firstCells_none,newRow,grownCap]
theorem JB(n:Nat)(w:aS)(hn:n≤70368744177664):
  aU bH 210 #[aL J 0 0,O Y n] w (RetB w []):=by
 obtain⟨i0,hi⟩:=eW nP;by_cases h0:n=0
 ·subst h0;go_enter func210,ntmps210;go_wp2;go_ret;exact⟨J,0,0,D,dF _ _ _ _,bP _ _⟩
 ·have hr:=Kt (P:=bH) w 22 3 22 5 i0 _ dH dB hi.1 hi.2.1 n (by omega) (by omega) (by omega) (by rw[hi.2.2.2];omega);have zB:=grownCap_ge w n 0 5;have hle:=grownCap_le_maxLen w n 0 5 (by unfold bB;omega);generalize grownCap w n 0 5=cap at*;have iJ:((Builtin.zeroCells (Value.int aP 0).cells n)++(Builtin.zeroCells (Value.int aP 0).cells (cap-n))).size=cap:=by rw[Array.size_append,size_zeroCells,size_zeroCells];simp[Value.cells];omega
  have Hsz:=bK iJ;clear iJ;generalize((Builtin.zeroCells (Value.int aP 0).cells n)++(Builtin.zeroCells (Value.int aP 0).cells (cap-n)))=cs at*;have oy:0<n:=by omega
  clear h0;unfold bB at hle;go_enter func210,ntmps210;have Hr:=bK hr;clear hr;go_wp2_with(at_builtin;refine rP ?_);refine eL (Ji D D Hr.out ?_);go_wp2;go_ret;refine⟨_,_,0,D,⟨by simp[bv],.inr ⟨w.heap.size,cap,cs,D,bM _,bS w.drew _,fT _,by unfold bB;omega,by rw[Hsz.out];simp,by simp[bv]⟩⟩,((bP _ _).drew).alloc (bM _) _⟩
theorem Wf(A:Option aW)(n c B:Nat)(ls:List (List UInt8))(w:aS)(h:RdL w B A n c ls)(hB:B≤w.heap.size)(hs:ls.flatten.length≤70368744177664):
  aU bH 162 #[aL A n c] w (RetB w ls.flatten):=by
 obtain⟨hn,hm,hl⟩:n≤c∧c≤bB∧ls.length=n:=by obtain⟨vs,h1,h2,_⟩:=h;exact⟨h1.le,h1.max,h2⟩
 obtain⟨i0,hi⟩:=eW nP;have Hi:=bK hi;have Hl:=bK hl;clear hl hi;unfold bB at hm;go_enter func162,ntmps162;go_wp2
 go_loop [3,5,11] (fun s _ i=> ∃k:Nat,k≤n∧i=O Y k∧s=O Y (ls.take k).flatten.length) (fun _ _ i=>n-(bE i).toNat)
 case atStart=>exact⟨0,by omega,D,D⟩
 case round=>
  obtain⟨k,hk,rfl,rfl⟩:=hrel;have hle:=j8 ls k;have Lj:=j8 ls (k+1);by_cases fF:k<n
  ·obtain⟨ad,l,A',n',c',rfl,hx,hc,hr⟩:=h.at_ fF;have hb:=hr.blen;rw[zO hx,cZ,hb] at Lj;have hs2:(ls.take (k+1)).flatten.length=(ls.take k).flatten.length+n':=by rw[zO hx,cZ,hb]
   have Hs:=bK hs2;clear hs2 hx hb;generalize(ls.take k).flatten.length=d at*;go_wp2
   go_round
   case rel=>exact⟨k+1,by omega,by go_num,Ei (by rw[Hs.out];omega)⟩
   case measure=>simp[bE];omega
  ·obtain rfl:k=n:=by omega
   have ht:ls.take k=ls:=List.take_of_length_le (by rw[Hl.out];omega);rw[ht];clear ht hle Lj;obtain⟨m,Tv⟩: ∃m,m=ls.flatten.length:=⟨_,D⟩;rw[←Tv] at hs ⊢;have Hm:=bK Tv;clear Tv;go_wp2_with fail;go_fit(JB m w hs);rintro e w1 ⟨A1,c1,n1,rfl,LR,hb1⟩;obtain rfl:n1=0:=by have:=Bv LR;simpa using this.symm
   have LS:w1.ownsRow w.heap.size 5 1 (aL A1 0 c1) 0 []:=LR;clear LR;go_wp2;go_loopw [6,8,27] (fun s _ i wr=> ∃(j:Nat) (A2:Option aW) (c2:Nat),j≤k∧i=O Y j∧s=aL A2 (ls.take j).flatten.length c2∧wr.ownsRow w.heap.size 5 1 (aL A2 (ls.take j).flatten.length c2) (ls.take j).flatten.length (bv (ls.take j).flatten)∧aV w.heap.size w wr) (fun _ _ i _=>k-(bE i).toNat);case atStart=>exact⟨0,A1,c1,by omega,D,D,LS,hb1⟩
   case round=>
    clear hb1 LS w1;obtain⟨j,A2,c2,hj,rfl,rfl,hown,hb⟩:=hrel;have Lj:=j8 ls (j+1);rw[←Hm.out] at Lj;by_cases fF:j<k
    ·obtain⟨ad,l,A',n',c',rfl,hx,hc,hr⟩:=(h.up (hb.mono hB)).at_ fF;have hlb:=hr.blen;have hs2:(ls.take (j+1)).flatten.length=(ls.take j).flatten.length+n':=by rw[zO hx,cZ,hlb]
     have Ta:bv (ls.take (j+1)).flatten=bv (ls.take j).flatten++bv l:=by rw[zO hx,Pc]
     obtain⟨m3,Kk⟩: ∃m3,m3=(ls.take (j+1)).flatten.length:=⟨_,D⟩;rw[←Kk] at hs2 Lj;have Hs:=bK (bO hs2 (bO Ta Kk));clear hs2 Ta hx hlb Kk;go_wp2_with(at_builtin;refine rP ?_);refine eL (vA (base:=w.heap.size) dH Hi.out D (by omega) hown D hr D (F6 _) Hs.out.1.symm Hs.out.2.1.symm (by unfold bB;omega) (by omega) hb.size ?_);intro A3 c3 w3 Tb hup3;have hb3:aV w.heap.size w w3:=hup3 hb hb.size (bM _);clear hup3 hb hown hc hr;go_wp2;go_roundw;case rel=>exact⟨j+1,A3,c3,by omega,by go_num,by rw[Hs.out.2.2],by rw[←Hs.out.2.2];exact Tb,hb3⟩
     case measure=>simp[bE];omega
    ·obtain rfl:j=k:=by omega
     have ht:ls.take j=ls:=List.take_of_length_le (by rw[Hl.out];omega);rw[ht] at hown ⊢;clear ht Lj;go_wp2;go_ret;exact⟨A2,c2,_,D,by simpa using hown,hb⟩
end
end Go.Proofs.YtfoabhdppkjmbaaGreat
