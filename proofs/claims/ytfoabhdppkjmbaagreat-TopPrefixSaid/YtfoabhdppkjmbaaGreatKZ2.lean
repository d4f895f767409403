import Derived.Test.YtfoabhdppkjmbaaGreatKZ1
import Derived.ProofKit
import Derived.OpenShut
import Derived.ShutString
import Derived.ChangeOld
import Derived.Deep.Slices
import Derived.Deep.Fields
import Derived.RegionTactic
set_option linter.unusedSimpArgs false
set_option linter.unusedVariables false
namespace Go.Proofs.YtfoabhdppkjmbaaGreat
open Bool renaming false→aD,true→aF
open Go renaming Addr→aW,Oper→bA,Program→aZ,TypeId→aY,Value→aT,World→aS,execOp→bD,yielded→bC
open Go.IntKind renaming u8→aP
open Go.Proofs.Tryz renaming prog→bH
open Go.RowKit renaming Below→aV
open Go.Value renaming pointer→aK,slice→aL
open Option renaming none→J,some→aE
section
open Go.ChangeShapes Go.WideShapes Go.ChangeAt Go.RowKit
abbrev cP:=@List.mem_cons_self
abbrev dV:=@List.mem_cons_of_mem
abbrev gB:=@World.block_lt_of_cell?
abbrev mD:=@List.mem_of_mem_take
abbrev nK:=@List.getElem?_eq_none
theorem Tryz.own:ownKnob Tryz.prog.godebug=J:=by kernel_rfl
theorem Tryz.laidOut:laidOutB bH=aF:=by kernel_rfl
theorem ma{a:Int}(h:(Lit.int aP a).wf=aF): ∃n:Nat,a=n∧n<256:=by
 have:=bounds_u8 h;exact⟨a.toNat,by omega,by omega⟩
section
variable {H:Type} {enc:TypeId × Value→H} {P:Program} {W:World}
theorem Z2{k:IntKind}{t e:aY}{b0:Nat}{v:aT}{d:DataW H}{p:List MemPlace}(ht:P.underlying t=aE (.slice e))(he:P.underlying e=aE (.int k))(hC:P.cellsOf e=1)
  (hv:Value.okWide P W .any b0 t v) (h:DataW.Trod enc P W 0 (fun _=>aF) aF t v d p):
  ∃(A:Option aW) (n c:Nat) (zs:List Int),v=aL A n c∧Rd W W.heap.size 1 A n c (zs.map (Value.int k))∧∀z∈zs,(Lit.int k z).wf=aF:=by
 obtain⟨A,n,c,rfl⟩:=okWide_slice ht hv;obtain⟨fuel,hf⟩:=h;rcases open_ints ht he hC hf with⟨Co,_⟩|⟨x,l,c',zs,Co,_,hl,hm,hz,_,jI,hwz⟩
 ·simp[Value.cells] at Co;obtain⟨rfl,rfl,rfl⟩:=Co;exact⟨J,0,0,[],D,iH _ _ _,by simp⟩
 ·simp[Value.cells] at Co;obtain⟨rfl,rfl,rfl⟩:=Co;have zu:zs.length=c:=by simpa using hz
  refine⟨_,_,_,zs.take n,D,⟨by simp[zu];omega,hl,hm,fun hn=>⟨x,D,?_,fun j u hu=> ?_⟩⟩,fun z hz=>hwz z (mD hz)⟩
  ·have:=jI 0 (by omega);have:=gB W _ this
   rwa[lL] at this
  ·have hj:j<n:=by
    rcases iD j n with h|h
    ·exact h
    ·rw[nK (by simp;omega)] at hu;cases hu
   rw[jI j (by omega)];simp[pN,hj] at hu;obtain⟨z,WR,rfl⟩:=hu;simp[List.getD,WR]
theorem Im: ∀(zs:List Int),(∀z∈zs,(Lit.int aP z).wf=aF)→∃l:List UInt8,zs.map (Value.int aP)=bv l
 | [],_=>⟨[],D⟩
 |z::zs,h=>by obtain⟨l,hl⟩:=Im zs fun z hz=>h z (dV _ hz);obtain⟨n,rfl,hn⟩:=ma (h z cP);refine⟨UInt8.ofNat n::l,?_⟩;simp[bv] at hl ⊢;refine⟨by omega,hl⟩
theorem U6{t e:aY}{b0:Nat}{v:aT}{d:DataW H}{p:List MemPlace}(ht:P.underlying t=aE (.slice e))(he:P.underlying e=aE (.int aP))(hC:P.cellsOf e=1)
  (hv:Value.okWide P W .any b0 t v) (h:DataW.Trod enc P W 0 (fun _=>aF) aF t v d p):
  ∃(A:Option aW) (n c:Nat) (l:List UInt8),v=aL A n c∧Rd W W.heap.size 1 A n c (bv l):=by
 obtain⟨A,n,c,zs,hv',hr,hz⟩:=Z2 ht he hC hv h;obtain⟨l,hl⟩:=Im zs hz;exact⟨A,n,c,l,hv',hl▸hr⟩
end
end
section
open Go.RowKit
abbrev cE:=@List.setIfInBounds_toArray
abbrev cW:=@List.set_cons_zero
abbrev cX:=@List.set_cons_succ
abbrev dP:=@Bool.and_eq_true
abbrev eT:=@Act.put_comm
abbrev gL:=@List.foldl_cons
abbrev mI:=@beq_iff_eq
abbrev mK:=@Bool.or_eq_true
abbrev mQ:=@List.sublist_cons_self
abbrev nO:=@Oper.apart_spec
abbrev nX:=@List.mem_append_left
abbrev oL:=@Ne.symm
abbrev pO:=@List.append_of_mem
abbrev qO:=@List.Sublist.refl
abbrev rE:=@Region.noSelect_spec
abbrev sF:=@getD_set_true
abbrev vW:=@getD_set_ne
abbrev xX:=@Calls.mono
namespace Ord
theorem run_bind_of'{P:aZ}{α β:Type}{s:Sem α}{f:α→Sem β}{w w1:aS}{a:α}(h:s.run P w= .ok a w1):(s>>=f).run P w=(f a).run P w1:=by
 rw[eB,h];rfl
def QF:Exit→Act→aS→Prop:=fun _ _ _=>False
def kindOf(P:aZ)(F:List Tmp)(o:bA):Nat:=
 let rd:=match o.dst with
  |some d=>if F.contains d then 3 else 1
  |none=>1
 match o.op with
 | .move _| .assign _| .pick .. | .binOp .. | .unOp .. | .slice .. | .indexAddr .. | .extract .. | .field .. | .fieldAddr .. | .makeInterface .. | .nilCheck _| .index .. | .build .. =>0
 | .convert s d _=>match P.underlying s,P.underlying d with
  |some (.int _),aE (.int _)=>0
  |some .string,aE (.slice _)=>2
  |_,_=>rd
 | .load .. =>rd
 | .call c=>match c.callee with
  | .builtin .len| .builtin .cap=>0
  |_=>2
 |_=>2
def grows(G:Bool)(F:List Tmp)(o:bA):Bool:=
 match o.op with
 | .store .. =>aD
 | .call c=>match c.callee with
  | .builtin .append=>aD
  |_=>G &&(match o.dst with
   |some d=> !F.contains d
   |none=>aF)
 |_=>G
def Stays(P:aZ)(o:bA)(v:aT)(a:Act)(w:aS):Prop:=
 ∀w2,aV w.heap.size w w2→(bD a.eval o).run P w2= .ok (.value v) w2
structure Cfg where
 S:aS→Prop
 G:Bool
 F:List Tmp
def wpE(P:aZ)(ops:Array bA)(G:Cfg)(R:Act→aS→Prop):List bA→Act→aS→Prop
 | [],a,w=>R a w
 |o::r,a,w=>
  if Region.wanted o (bC ops a.tmps)=aF then
   if kindOf P G.F o=0 then∃v,(∀w2,(bD a.eval o).run P w2= .ok (.value v) w2)∧wpE P ops G R r (a.put o.dst v) w
   else if kindOf P G.F o=1 then∃v,(∀w2,G.S w2→(bD a.eval o).run P w2= .ok (.value v) w2)∧wpE P ops G R r (a.put o.dst v) w
   else if kindOf P G.F o=3 then∃v,Stays P o v a w∧wpE P ops G R r (a.put o.dst v) w
   else o.wp P a w (fun a' w'=>(G.S w'∧(grows G.G G.F o=aF→aV w.heap.size w w'))∧wpE P ops G R r a' w') QF
  else wpE P ops G R r (a.put o.dst undef) w
section
variable {P:Program} {ops:Array Oper} {G:Cfg} {R:Act→World→Prop}
theorem upon_imp{o:bA}{a:Act}{K K':Act→aS→Prop}{Q:Exit→Act→aS→Prop}(h: ∀a w,K a w→K' a w)(r:Result Next)(hh:o.upon P a K QF r):o.upon P a K' Q r:=by
 cases r with
 |ok n w'=>
  cases n<;>simp only[Oper.upon] at hh ⊢ <;>
   first
    |exact h _ _ hh
    |exact hh.elim
    |exact xX hh (fun e Gz he=>by
      cases e with
      |returned v=>exact h _ _ he
      |panicked c=>exact he.elim
      |outgrown=>obtain⟨_,_,he⟩:=he;exact he.elim)
    |exact Rows.mono hh (fun _ _ he=>h _ _ he)
 |halt x w'=>cases x<;>simp only[Oper.upon] at hh ⊢ <;>exact hh.elim
theorem wp_imp{o:bA}{a:Act}{w:aS}{K K':Act→aS→Prop}{Q:Exit→Act→aS→Prop}(h: ∀a w,K a w→K' a w)(hh:o.wp P a w K QF):o.wp P a w K' Q:=upon_imp h _ hh
def Fm(o:bA)(a a':Act):Prop:= ∃d u,a'=Act.put { a with defers:=d } o.dst u
theorem wp_put{oi oj:bA}{v:aT}(CM:oi.apart ops oj=aF)(G0: ∀cs b,oj.op≠ .select cs b){K:Act→aS→Prop}{a:Act}{w:aS}
  (h:oj.wp P (a.put oi.dst v) w K QF):oj.wp P a w (fun a' w'=>Fm oj a a'∧K (a'.put oi.dst v) w') QF:=by
 obtain⟨h1,h2,h3⟩:=nO CM;unfold Oper.wp at*;rw[execOp_put oj G0 a oi.dst v h1] at h;generalize(bD a.eval oj).run P w=r at*;have hf: ∀(u:aT),Fm oj a (a.put oj.dst u):=fun u=>⟨a.defers,u,D⟩
 cases r with
 |ok n w'=>
  cases n<;>simp only[Oper.upon] at h ⊢
  case value u=>exact⟨hf u,by rw[←eT a v u h2];exact h⟩
  case skip=>exact⟨hf _,by rw[←eT a v undef h2];exact h⟩
  case defer d=>refine⟨⟨_,_,D⟩,?_⟩;rw[←eT _ v undef h2,←Act.put_defers];exact h
  case enter f args=>
   refine xX h fun e Gz he=> ?_
   cases e with
   |returned u=>exact⟨hf u,by rw[←eT a v u h2];exact he⟩
   |panicked c=>exact he
   |outgrown=>exact he
  case row row args=>exact Rows.mono h fun u Gz he=>⟨hf u,by rw[←eT a v u h2];exact he⟩
 |halt x w'=>
  cases x<;>simp only[Oper.upon] at h ⊢
  case panic u=>exact h
theorem wp_form{o:bA}(hs: ∀cs b,o.op≠ .select cs b){K:Act→aS→Prop}{a:Act}{w:aS}(h:o.wp P a w K QF):o.wp P a w (fun a' w'=>Fm o a a'∧K a' w') QF:=by
 unfold Oper.wp at*;generalize(bD a.eval o).run P w=r at*
 cases r with
 |ok n w'=>
  cases n<;>simp only[Oper.upon] at h ⊢
  case value u=>exact⟨⟨a.defers,u,D⟩,h⟩
  case skip=>exact⟨⟨a.defers,_,D⟩,h⟩
  case defer d=>exact⟨⟨_,_,D⟩,h⟩
  case enter f args=>
   refine xX h fun e Gz he=> ?_
   cases e with
   |returned u=>exact⟨⟨a.defers,u,D⟩,he⟩
   |panicked c=>exact he
   |outgrown=>exact he
  case row row args=>exact Rows.mono h fun u Gz he=>⟨⟨a.defers,u,D⟩,he⟩
 |halt x w'=>
  cases x<;>simp only[Oper.upon] at h ⊢
  case panic u=>exact h
theorem wp_ex{o:bA}{K:Act→aS→Prop}{a:Act}{w:aS}(h:o.wp P a w K QF): ∃a' w',K a' w':=by
 unfold Oper.wp at*;generalize(bD a.eval o).run P w=r at*
 cases r with
 |ok n w'=>
  cases n<;>simp only[Oper.upon] at h
  case value u=>exact⟨_,_,h⟩
  case skip=>exact⟨_,_,h⟩
  case defer d=>exact⟨_,_,h⟩
  case enter f args=>
   obtain⟨e,Gz,fr,he,_⟩:=h []
   cases e with
   |returned u=>exact⟨_,_,he⟩
   |panicked c=>exact he.elim
   |outgrown=>obtain⟨_,_,he⟩:=he;exact he.elim
  case row row args=>obtain⟨v,Gz,he,_⟩:=h { fn:=0,tmps:= #[],todo:= [],defers:= [],mode:= .run,kind:= .normal } [];exact⟨_,_,he⟩
 |halt x w'=>
  cases x<;>simp only[Oper.upon] at h
  case panic u=>exact h.elim
theorem wp_putOut{oi oj:bA}{v:aT}(CM:oi.apart ops oj=aF)(G0: ∀cs b,oj.op≠ .select cs b){K:Act→aS→Prop}{a:Act}{w:aS}
  (h:oj.wp P a w K QF):oj.wp P (a.put oi.dst v) w (fun a' w'=> ∃a1,Fm oj a a1∧a'=a1.put oi.dst v∧K a1 w') QF:=by
 obtain⟨h1,h2,h3⟩:=nO CM;unfold Oper.wp at*;rw[execOp_put oj G0 a oi.dst v h1];generalize(bD a.eval oj).run P w=r at*
 cases r with
 |ok n w'=>
  cases n<;>simp only[Oper.upon] at h ⊢
  case value u=>exact⟨_,⟨a.defers,u,D⟩,eT a v u h2,h⟩
  case skip=>exact⟨_,⟨a.defers,_,D⟩,eT a v undef h2,h⟩
  case defer d=>refine⟨_,⟨d::a.defers,undef,D⟩,?_,h⟩;rw[Act.put_defers,eT _ v undef h2]
  case enter f args=>
   refine xX h fun e Gz he=> ?_
   cases e with
   |returned u=>exact⟨_,⟨a.defers,u,D⟩,eT a v u h2,he⟩
   |panicked c=>exact he
   |outgrown=>exact he
  case row row args=>exact Rows.mono h fun u Gz he=>⟨_,⟨a.defers,u,D⟩,eT a v u h2,he⟩
 |halt x w'=>
  cases x<;>simp only[Oper.upon] at h ⊢
  case panic u=>exact h
theorem same_put{oi oj:bA}(CM:oi.apart ops oj=aF)(G0: ∀cs b,oj.op≠ .select cs b)(a:Act)(v:aT):
  bD (a.put oi.dst v).eval oj=bD a.eval oj∧Region.wanted oj (bC ops (a.put oi.dst v).tmps)=Region.wanted oj (bC ops a.tmps):=by
 obtain⟨h1,_,_⟩:=nO CM;exact⟨execOp_put oj G0 a oi.dst v h1,wanted_put oj a oi.dst v h1⟩
theorem same_fm{oi oj:bA}(CM:oi.apart ops oj=aF)(G0: ∀cs b,oj.op≠ .select cs b){a a':Act}(hf:Fm oi a a'):
  bD a'.eval oj=bD a.eval oj∧Region.wanted oj (bC ops a'.tmps)=Region.wanted oj (bC ops a.tmps):=by
 obtain⟨d,u,rfl⟩:=hf;have:=same_put (a:= { a with defers:=d }) CM G0 u;exact⟨this.1,this.2⟩
theorem Stays.at_{o:bA}{v:aT}{a:Act}{w w':aS}(h:Stays P o v a w)(hb:aV w.heap.size w w'):Stays P o v a w':=fun w2 h2=>h w2 (eI hb h2)
def commK(kj ki:Nat)(gi:Bool):Bool:=
 kj==0||ki==0||kj==1||ki==1||(kj==3 &&(ki==3||gi))
def comm(P:aZ)(ops:Array bA)(G:Bool)(F:List Tmp)(oj oi:bA):Bool:=
 oj.apart ops oi && oi.apart ops oj && commK (kindOf P F oj) (kindOf P F oi) (grows G F oi)
theorem kind_lt(P:aZ)(F:List Tmp)(o:bA):kindOf P F o=0∨kindOf P F o=1∨kindOf P F o=2∨kindOf P F o=3:=by
 have hrd: ∀(d:Option Tmp),(match d with|some d=>if F.contains d then 3 else 1|none=>1)=1∨(match d with|some d=>if F.contains d then 3 else 1|none=>1)=3:=by
  intro d
  cases d with
  |none=>exact .inl D
  |some d=>by_cases h:F.contains d=aF<;>simp only[h,if_true,Bool.false_eq_true,if_false]<;>simp
 obtain⟨d,op,ty,pos,af,g⟩:=o;rcases hrd d with h|h
 all_goals
  cases op<;>simp only[kindOf,h]<;>first|(simp;done)|skip
  case convert s d x=>split<;>simp
  case call c=>
   obtain⟨ce,ar,ts⟩:=c
   cases ce with
   |builtin b=>cases b<;>simp
   |_=>simp
def Ev(P:aZ)(G:Cfg)(o:bA)(v:aT)(a:Act)(w:aS):Prop:=
 (kindOf P G.F o=0∧∀w2,(bD a.eval o).run P w2= .ok (.value v) w2)∨(kindOf P G.F o=1∧∀w2,G.S w2→(bD a.eval o).run P w2= .ok (.value v) w2)∨(kindOf P G.F o=3∧Stays P o v a w)
theorem quiet_iff{o:bA}{r:List bA}{a:Act}{w:aS}(hw:Region.wanted o (bC ops a.tmps)=aF)(hk:kindOf P G.F o≠2):
  wpE P ops G R (o::r) a w↔∃v,Ev P G o v a w∧wpE P ops G R r (a.put o.dst v) w:=by
 rw[wpE,if_pos hw];rcases kind_lt P G.F o with h|h|h|h
 ·rw[if_pos h];exact⟨fun⟨v,h1,h2⟩=>⟨v,.inl ⟨h,h1⟩,h2⟩,fun⟨v,h1,h2⟩=>⟨v,by rcases h1 with⟨_,h1⟩|⟨h',_⟩|⟨h',_⟩<;>first|exact h1|omega,h2⟩⟩
 ·rw[bX (by omega),if_pos h];exact⟨fun⟨v,h1,h2⟩=>⟨v,.inr (.inl ⟨h,h1⟩),h2⟩,fun⟨v,h1,h2⟩=>⟨v,by rcases h1 with⟨h',_⟩|⟨_,h1⟩|⟨h',_⟩<;>first|exact h1|omega,h2⟩⟩
 ·exact absurd h hk
 ·rw[bX (by omega),bX (by omega),if_pos h];exact⟨fun⟨v,h1,h2⟩=>⟨v,.inr (.inr ⟨h,h1⟩),h2⟩,fun⟨v,h1,h2⟩=>⟨v,by rcases h1 with⟨h',_⟩|⟨h',_⟩|⟨_,h1⟩<;>first|exact h1|omega,h2⟩⟩
theorem loud_iff{o:bA}{r:List bA}{a:Act}{w:aS}(hw:Region.wanted o (bC ops a.tmps)=aF)(hk:kindOf P G.F o=2):
  wpE P ops G R (o::r) a w↔o.wp P a w (fun a' w'=>(G.S w'∧(grows G.G G.F o=aF→aV w.heap.size w w'))∧wpE P ops G R r a' w') QF:=by
 rw[wpE,if_pos hw,bX (by omega),bX (by omega),bX (by omega)]
theorem skip_iff{o:bA}{r:List bA}{a:Act}{w:aS}(hw: ¬Region.wanted o (bC ops a.tmps)=aF):
  wpE P ops G R (o::r) a w↔wpE P ops G R r (a.put o.dst undef) w:=by rw[wpE,bX hw]
theorem wpE_mono{l l':List bA}(h: ∀a w,G.S w→wpE P ops G R l a w→wpE P ops G R l' a w)(o:bA)(a:Act)(w:aS)(hS:G.S w)(hh:wpE P ops G R (o::l) a w):wpE P ops G R (o::l') a w:=by
 by_cases hw:Region.wanted o (bC ops a.tmps)=aF
 ·by_cases hk:kindOf P G.F o=2
  ·rw[loud_iff hw hk] at hh ⊢;exact wp_imp (fun a' w' hx=>⟨hx.1,h _ _ hx.1.1 hx.2⟩) hh
  ·rw[quiet_iff hw hk] at hh ⊢;obtain⟨v,h1,h2⟩:=hh;exact⟨v,h1,h _ _ hS h2⟩
 ·rw[skip_iff hw] at hh ⊢;exact h _ _ hS hh
theorem Ev.same{o:bA}{v:aT}{a a':Act}{w:aS}(h:Ev P G o v a w)(he:bD a'.eval o=bD a.eval o):Ev P G o v a' w:=by
 unfold Ev Stays at*;rw[he];exact h
theorem Ev.later{o:bA}{v:aT}{a:Act}{w w':aS}(h:Ev P G o v a w)(hb:kindOf P G.F o=3→aV w.heap.size w w'):Ev P G o v a w':=by
 rcases h with h|h|⟨h1,h2⟩
 ·exact .inl h
 ·exact .inr (.inl h)
 ·exact .inr (.inr ⟨h1,fun w2 h3=>h2 w2 (eI (hb h1) h3)⟩)
theorem Ev.any{o:bA}{v:aT}{a:Act}{w w':aS}(h:Ev P G o v a w)(hk:kindOf P G.F o≠3):Ev P G o v a w':=by
 rcases h with h|h|⟨h1,_⟩
 ·exact .inl h
 ·exact .inr (.inl h)
 ·exact absurd h1 hk
theorem Ev.run{o:bA}{v:aT}{a:Act}{w:aS}(h:Ev P G o v a w)(hS:G.S w):(bD a.eval o).run P w= .ok (.value v) w:=by
 rcases h with⟨_,h⟩|⟨_,h⟩|⟨_,h⟩
 ·exact h w
 ·exact h w hS
 ·exact h w (Below.refl _ _)
theorem Ev.det{o:bA}{v v':aT}{a:Act}{w:aS}(h:Ev P G o v a w)(h':Ev P G o v' a w)(hS:G.S w):v'=v:=by
 have e:=h'.run hS;rw[h.run hS] at e;injection e with e _;injection e with e;exact e.symm
theorem swap_{oj oi:bA}{r:List bA}{a:Act}{w:aS}(hc:comm P ops G.G G.F oj oi=aF)(G0: ∀cs b,oj.op≠ .select cs b)(CN: ∀cs b,oi.op≠ .select cs b)(hS:G.S w)
  (h:wpE P ops G R (oj::oi::r) a w):wpE P ops G R (oi::oj::r) a w:=by
 simp only[comm,dP] at hc;obtain⟨⟨CO,CP⟩,hk⟩:=hc;simp only[commK,mK,dP,mI] at hk;obtain⟨_,hne,_⟩:=nO CP;have ji:=fun v=>same_put CO CN a v;have ij:=fun v=>same_put CP G0 a v;by_cases F7:Region.wanted oj (bC ops a.tmps)=aF
 case neg=>
  rw[skip_iff F7] at h;by_cases Bq:Region.wanted oi (bC ops a.tmps)=aF
  case neg=>rw[skip_iff (by rw[(ji undef).2];exact Bq)] at h;rw[skip_iff Bq,skip_iff (by rw[(ij undef).2];exact F7),eT a undef undef hne];exact h
  case pos=>
   by_cases zC:kindOf P G.F oi=2
   ·rw[loud_iff (by rw[(ji undef).2];exact Bq) zC] at h;rw[loud_iff Bq zC];refine wp_imp ?_ (wp_put CO CN h);rintro a' w' ⟨hf,h1,h2⟩;refine⟨h1,?_⟩;rw[skip_iff (by rw[(same_fm CP G0 hf).2];exact F7)];exact h2
   ·rw[quiet_iff (by rw[(ji undef).2];exact Bq) zC] at h;obtain⟨v,h1,h2⟩:=h;rw[quiet_iff Bq zC];refine⟨v,h1.same (ji undef).1.symm,?_⟩;rw[skip_iff (by rw[(ij v).2];exact F7),eT a v undef hne];exact h2
 case pos=>
  by_cases Bq:Region.wanted oi (bC ops a.tmps)=aF
  case neg=>
   rw[skip_iff Bq];by_cases F8:kindOf P G.F oj=2
   ·rw[loud_iff F7 F8] at h;rw[loud_iff (by rw[(ij undef).2];exact F7) F8];refine wp_imp ?_ (wp_putOut CP G0 h);rintro a' w' ⟨a1,hf,rfl,h1,h2⟩;refine⟨h1,?_⟩;rw[skip_iff (by rw[(same_fm CO CN hf).2];exact Bq)] at h2;exact h2
   ·rw[quiet_iff F7 F8] at h;obtain⟨v,h1,h2⟩:=h;rw[quiet_iff (by rw[(ij undef).2];exact F7) F8];refine⟨v,h1.same (ij undef).1,?_⟩;rw[skip_iff (by rw[(ji v).2];exact Bq)] at h2;rw[eT a undef v hne];exact h2
  case pos=>
   by_cases F8:kindOf P G.F oj=2
   ·
    rw[loud_iff F7 F8] at h;have F9:kindOf P G.F oi≠3:=by rcases hk with(((h'|h')|h')|h')|h'<;>omega
    have zC:kindOf P G.F oi≠2:=by rcases hk with(((h'|h')|h')|h')|h'<;>omega
    obtain⟨a1,w1,wo,⟨hS1,_⟩,h1⟩:=wp_ex (wp_form G0 h);have hs1:=same_fm CO CN wo;rw[quiet_iff (by rw[hs1.2];exact Bq) zC] at h1;obtain⟨u,h3,_⟩:=h1;have h3':Ev P G oi u a w:=(h3.same hs1.1.symm).any F9;rw[quiet_iff Bq zC];refine⟨u,h3',?_⟩;rw[loud_iff (by rw[(ij u).2];exact F7) F8];refine wp_imp ?_ (wp_putOut CP G0 h);rintro a' w' ⟨a2,Tc,rfl,h4,h5⟩;refine⟨h4,?_⟩;have hs2:=same_fm CO CN Tc;rw[quiet_iff (by rw[hs2.2];exact Bq) zC] at h5;obtain⟨u',h6,h7⟩:=h5;have e:u'=u:=(h3'.any F9).det (h6.same hs2.1.symm) h4.1;rw[e] at h7;exact h7
   ·rw[quiet_iff F7 F8] at h;obtain⟨v,hv,h2⟩:=h;by_cases zC:kindOf P G.F oi=2
    ·rw[loud_iff (by rw[(ji v).2];exact Bq) zC] at h2;rw[loud_iff Bq zC];refine wp_imp ?_ (wp_put CO CN h2);rintro a' w' ⟨hf,h3,h4⟩;refine⟨h3,?_⟩;have hs':=same_fm CP G0 hf;rw[quiet_iff (by rw[hs'.2];exact F7) F8];refine⟨v,(hv.same hs'.1).later fun h3k=>h3.2 ?_,h4⟩;rcases hk with(((h'|h')|h')|h')|h'
     ·omega
     ·omega
     ·omega
     ·omega
     ·rcases h'.2 with pc|pc
      ·omega
      ·exact pc
    ·rw[quiet_iff (by rw[(ji v).2];exact Bq) zC] at h2;obtain⟨u,h3,h4⟩:=h2;rw[quiet_iff Bq zC];refine⟨u,h3.same (ji v).1.symm,?_⟩;rw[quiet_iff (by rw[(ij u).2];exact F7) F8];exact⟨v,hv.same (ij u).1,by rw[eT a u v hne];exact h4⟩
theorem head_{i:Nat}{o:bA}{r:List bA}{a:Act}{w:aS}{Q:Exit→Act→aS→Prop}(hi:ops[i]?=aE o)(hS:G.S w)(h:wpE P ops G R (o::r) a w):wpOp P ops Q i (fun a' w'=>G.S w'∧wpE P ops G R r a' w') a w:=by
 unfold wpOp;simp only[hi];split
 ·rename_i hw;refine .inl ?_;by_cases hk:kindOf P G.F o=2
  ·rw[loud_iff hw hk] at h;exact wp_imp (fun _ _ hx=>⟨hx.1.1,hx.2⟩) h
  ·rw[quiet_iff hw hk] at h;obtain⟨v,h1,h2⟩:=h;rw[Oper.wp,h1.run hS];exact⟨hS,h2⟩
 ·rename_i hw;rw[skip_iff hw] at h;exact⟨hS,h⟩
def lst(ops:Array bA)(L:List Nat):List bA:=L.filterMap fun i=>ops[i]?
theorem lst_cons{i:Nat}{o:bA}{L:List Nat}(h:ops[i]?=aE o):lst ops (i::L)=o::lst ops L:=by simp[lst,h]
def commI(P:aZ)(ops:Array bA)(G:Bool)(F:List Tmp)(j i:Nat):Bool:=
 match ops[j]?,ops[i]? with
 |some oj,aE oi=>comm P ops G F oj oi
 |_,_=>aD
theorem commI_spec{b:Bool}{F:List Tmp}{j i:Nat}(h:commI P ops b F j i=aF): ∃oj oi,ops[j]?=aE oj∧ops[i]?=aE oi∧comm P ops b F oj oi=aF:=by
 unfold commI at h;split at h
 ·rename_i oj oi h1 h2;exact⟨oj,oi,h1,h2,h⟩
 ·cases h
theorem move_(hN:Region.noSelect ops=aF){i:Nat}{s:List Nat} : ∀(p:List Nat),(∀j∈p,commI P ops G.G G.F j i=aF)→∀a w,G.S w→wpE P ops G R (lst ops (p++i::s)) a w→wpE P ops G R (lst ops (i::(p++s))) a w
 | [],_,_,_,_,h=>h
 |j::p,hp,a,w,hS,h=>by obtain⟨oj,oi,h1,h2,hc⟩:=commI_spec (hp j List.mem_cons_self);have ih:=move_ hN (s:=s) p (fun k hk=>hp k (List.mem_cons_of_mem _ hk));rw[List.cons_append,lst_cons h1] at h;have h':=wpE_mono ih oj a w hS h;rw[lst_cons h2] at h';rw[lst_cons h2,List.cons_append,lst_cons h1];exact swap_ hc (rE hN j oj · · h1) (rE hN i oi · · h2) hS h'
def step(M:List Nat)(s:Nat)(e:Edge):Nat:=if Region.binds .any e then s|||2 ^ e.on|||M.getD e.on 0 else s
def masks(ops:Array bA):List Nat:=ops.toList.foldl (fun M o=>M++ [o.after.toList.foldl (step M) 0]) []
def okMasks(ops:Array bA)(M:List Nat):Bool:=
 (List.range ops.size).all fun i=>match ops[i]? with
  |none=>aD
  |some o=>(M.getD i 0==o.after.toList.foldl (step M) 0) && o.after.toList.all fun e=> !Region.binds .any e||decide (e.on<i)
theorem fold_spec(M:List Nat)(j:Nat): ∀(l:List Edge) (s:Nat),(l.foldl (step M) s).testBit j=aF→s.testBit j=aF∨∃e∈l,Region.binds .any e=aF∧(e.on=j∨(M.getD e.on 0).testBit j=aF)
 | [],s,h=> .inl h
 |e::l,s,h=>by
  rw[gL] at h;rcases fold_spec M j l _ h with h1|⟨e',he,h2⟩
  ·unfold step at h1;split at h1
   ·rename_i hb;rw[Nat.testBit_or,Nat.testBit_or,mK,mK] at h1;rcases h1 with(h1|h1)|h1
    ·exact .inl h1
    ·rw[Nat.testBit_two_pow] at h1;exact .inr ⟨e,List.mem_cons_self,hb,.inl (by simpa using h1)⟩
    ·exact .inr ⟨e,List.mem_cons_self,hb,.inr h1⟩
   ·exact .inl h1
  ·exact .inr ⟨e',List.mem_cons_of_mem _ he,h2⟩
def Closed(ops:Array bA)(listed:Array Bool):Prop:= ∀k o,ops[k]?=aE o→listed.getD k aF=aF→∀e∈o.after,Region.binds .any e=aF→listed.getD e.on aD=aF
theorem getD_tf{listed:Array Bool}{i:Nat}(h:listed.getD i aD=aF):listed.getD i aF=aF:=by
 rcases iD i listed.size with h'|h'
 ·simpa [h'] using h
 ·simp[iU h'] at h
theorem dep_listed{M:List Nat}(hM:okMasks ops M=aF){listed:Array Bool}(hc:Closed ops listed)(n:Nat): ∀i,i≤n→(∀o,ops[i]?=aE o→∀e∈o.after,Region.binds .any e=aF→listed.getD e.on aD=aF)→i<ops.size→∀j,(M.getD i 0).testBit j=aF→listed.getD j aD=aF:=by
 induction n with
 |zero=>
  intro i hi hr fF j hb;obtain rfl:i=0:=by omega
  have h1:=List.all_eq_true.1 hM 0 (List.mem_range.2 fF)
  cases ho:ops[0]? with
  |none=>rw[ho] at h1;cases h1
  |some o=>
   rw[ho] at h1;simp only[dP,mI] at h1;rw[h1.1] at hb;rcases fold_spec M j _ _ hb with h2|⟨e,he,wC,h3⟩
   ·simp at h2
   ·have:=List.all_eq_true.1 h1.2 e he;simp[wC] at this
 |succ n ih=>
  intro i hi hr fF j hb;have h1:=List.all_eq_true.1 hM i (List.mem_range.2 fF)
  cases ho:ops[i]? with
  |none=>rw[ho] at h1;cases h1
  |some o=>
   rw[ho] at h1;simp only[dP,mI] at h1;rw[h1.1] at hb;rcases fold_spec M j _ _ hb with h2|⟨e,he,wC,h3⟩
   ·simp at h2
   ·have zx:e.on<i:=by have:=List.all_eq_true.1 h1.2 e he;simpa [wC] using this
    have hl:=hr o ho e (by simpa using he) wC;rcases h3 with rfl|h3
    ·exact hl
    ·exact ih e.on (by omega) (fun o' Tw e' zZ hb'=>hc e.on o' Tw (getD_tf hl) e' zZ hb') (by omega) j h3
theorem any_of(hN:Region.noSelect ops=aF){M:List Nat}(hM:okMasks ops M=aF){Q:Exit→Act→aS→Prop} : ∀(n:Nat) (L:List Nat) (listed:Array Bool) (a:Act) (w:aS),L.length=n→listed.size=ops.size→(∀i,i∈L↔i<ops.size∧listed.getD i aF=aD)→
  L.Pairwise (fun j i=>i≠j∧((M.getD i 0).testBit j=aF∨commI P ops G.G G.F j i=aF))→Closed ops listed→G.S w→wpE P ops G (Q .normal) (lst ops L) a w→wpAny P .any ops Q n listed a w:=by
 intro n
 induction n with
 |zero=>
  intro L listed a w hn iJ hL hp hc hS h;obtain rfl:L= []:=cU hn;refine⟨?_,h⟩
  cases hr:Region.ready .any ops listed with
  |nil=>rfl
  |cons x xs=>
   have hx:=mem_ready.1 (by rw[hr];exact List.mem_cons_self:x∈Region.ready .any ops listed);obtain⟨h0,o,ho,_⟩:=hx;have:=(hL x).2 ⟨(Array.getElem?_eq_some_iff.1 ho).1,h0⟩;cases this
 |succ n ih=>
  intro L listed a w hn iJ hL hp hc hS h;refine⟨fun h0=> ?_,fun i hi=> ?_⟩
  ·
   exfalso
   have J3: ∀m,∀i,i<m→i<ops.size→listed.getD i aF=aD→False:=by
    intro m
    induction m with
    |zero=>intro i hi;omega
    |succ m pd=>
     intro i hi fF Yz;by_cases hall: ∀o,ops[i]?=aE o→∀e∈o.after,Region.binds .any e=aF→listed.getD e.on aD=aF
     ·have:i∈Region.ready .any ops listed:=mem_ready.2 ⟨Yz,ops[i],dL fF,hall _ (dL fF)⟩;rw[h0] at this;cases this
     ·have h1:=List.all_eq_true.1 hM i (List.mem_range.2 fF);rw[dL fF] at h1;simp only[dP,mI] at h1;apply hall;intro o ho e he hb;rw[dL fF] at ho;injection ho with ho;subst ho;have zx:e.on<i:=by have:=List.all_eq_true.1 h1.2 e (by simpa using he);simpa [hb] using this
      cases zB:listed.getD e.on aF with
      |false=>exact(pd e.on (by omega) (by omega) zB).elim
      |true=>
       have:e.on<listed.size:=by omega
       simpa [this] using zB
   cases L with
   |nil=>simp at hn
   |cons x xs=>
    obtain⟨hx1,hx2⟩:=(hL x).1 List.mem_cons_self;exact J3 (x+1) x (by omega) hx1 hx2
  ·obtain⟨h0,o,ho,hall⟩:=mem_ready.1 hi;have fF:i<ops.size:=(Array.getElem?_eq_some_iff.1 ho).1;obtain⟨p,s,rfl⟩:=pO ((hL i).2 ⟨fF,h0⟩);have hpa:=List.pairwise_append.1 hp
   have CQ:(p++s).Pairwise (fun j i=>i≠j∧((M.getD i 0).testBit j=aF∨commI P ops G.G G.F j i=aF)):=
    hp.sublist ((qO p).append (mQ i s))
   have db: ∀j∈p,commI P ops G.G G.F j i=aF:=fun j hj=>by
    rcases(hpa.2.2 j hj i List.mem_cons_self).2 with h1|h1
    ·have:=dep_listed hM hc i i (bM _) (fun o' Tw=>by rw[ho] at Tw;injection Tw with Tw;subst Tw;exact hall) fF j h1;have Yz:=((hL j).1 (nX _ hj)).2;rw[getD_tf this] at Yz;cases Yz
    ·exact h1
   have h':=move_ hN p db a w hS h;rw[lst_cons ho] at h';refine wpOp_mono (fun a' w' hx=>ih (p++s) (listed.setIfInBounds i aF) a' w' ?_ (by simpa using iJ) ?_ CQ ?_ hx.1 hx.2) (head_ ho hS h')
   ·simp at hn ⊢;omega
   ·intro k;by_cases M6:i=k
    ·subst M6;have W5:i ∉ p:=fun hm=>(hpa.2.2 i hm i List.mem_cons_self).1 D;have Ga:i ∉ s:=fun hm=>((List.pairwise_cons.1 hpa.2.1).1 i hm).1 D;have je:i<listed.size:=by omega
     simp[W5,Ga,je]
    ·rw[vW aF M6,←hL k];simp[oL M6]
   ·intro k ok hk hl e he hb;by_cases M6:i=k
    ·subst M6;rw[ho] at hk;injection hk with hk;subst hk;exact sF (hall e he hb)
    ·rw[vW aF M6] at hl;exact sF (hc k ok hk hl e he hb)
def pairB(P:aZ)(ops:Array bA)(G:Bool)(F:List Tmp)(M:List Nat):List Nat→Bool
 | []=>aF
 |j::r=>r.all (fun i=>i !=j &&((M.getD i 0).testBit j||commI P ops G F j i)) && pairB P ops G F M r
theorem pairB_spec{b:Bool}{F:List Tmp}{M:List Nat} : ∀ {L:List Nat},pairB P ops b F M L=aF→L.Pairwise (fun j i=>i≠j∧((M.getD i 0).testBit j=aF∨commI P ops b F j i=aF))
 | [],_=>List.Pairwise.nil
 |j::r,h=>by simp only[pairB,dP] at h;refine List.Pairwise.cons (fun i hi=> ?_) (pairB_spec h.2);have:=List.all_eq_true.1 h.1 i hi;simpa using this
def chk(P:aZ)(ops:Array bA)(G:Bool)(F:List Tmp)(L:List Nat):Bool:=
 Region.noSelect ops && okMasks ops (masks ops) && pairB P ops G F (masks ops) L &&(List.range ops.size).all (fun i=>L.contains i) && L.all (fun i=>decide (i<ops.size)) && L.length==ops.size
theorem any_at{l l0:List bA}{a:Act}{w:aS}{Q:Exit→Act→aS→Prop}(L:List Nat)(S:aS→Prop)(G:Bool)(F:List Tmp)(hc:chk P l.toArray G F L=aF)(hl:lst l.toArray L=l0)(hS:S w)
  (h:wpE P l.toArray ⟨S,G,F⟩ (Q .normal) l0 a w):wpAny P .any l.toArray Q l.toArray.size (Array.replicate l.toArray.size aD) a w:=by
 subst hl;simp only[chk,dP,mI] at hc;obtain⟨⟨⟨⟨⟨h1,h2⟩,h3⟩,h4⟩,h5⟩,h6⟩:=hc;rw[←h6];refine any_of (G:=⟨S,G,F⟩) h1 h2 _ L _ a _ D (by rw[Array.size_replicate];exact h6) (fun i=> ?_) (pairB_spec h3) (fun k o hk hl=> ?_) hS h
 ·constructor
  ·intro hi;have:=List.all_eq_true.1 h5 i hi;simp at this;simp[h6,this]
  ·rintro⟨hi,_⟩;have:=List.all_eq_true.1 h4 i (List.mem_range.2 hi);simpa using this
 ·obtain⟨Td,_⟩:=Array.getElem?_eq_some_iff.1 hk;rw[←h6] at Td;simp[Td] at hl
theorem region_at{id:Nat}{l l0:List bA}{a:Act}{w:aS}{Q:Exit→Act→aS→Prop}(L:List Nat)(S:aS→Prop)(G:Bool)(F:List Tmp)(hm:P.follows .mixedOrders=aF)(hc:chk P l.toArray G F L=aF)(hl:lst l.toArray L=l0)(hS:S w.drew)
  (h:wpE P l.toArray ⟨S,G,F⟩ (Q .normal) l0 a w.drew):(Code.region id l.toArray aF).wp P Q a w:=
 wp_region_any hm (any_at L S G F hc hl hS h)
theorem lst_all: ∀(l:List bA),lst l.toArray (List.range l.length)=l:=by
 intro l;apply List.ext_getElem?;intro i;have:lst l.toArray (List.range l.length)=(List.range l.length).filterMap (fun i=>l[i]?):=by simp[lst]
 rw[this]
 have e: ∀(k:Nat),k≤l.length→(List.range k).filterMap (fun i=>l[i]?)=l.take k:=by
  intro k
  induction k with
  |zero=>intro _;simp
  |succ k ih=>
   intro hk;rw[List.range_succ,List.filterMap_append,ih (by omega),List.take_add_one];simp[cF (show k<l.length by omega)]
 rw[e _ (bM _),List.take_length]
theorem region_{id:Nat}{l:List bA}{a:Act}{w:aS}{Q:Exit→Act→aS→Prop}(S:aS→Prop)(G:Bool)(F:List Tmp)(hm:P.follows .mixedOrders=aF)(hc:chk P l.toArray G F (List.range l.length)=aF)(hS:S w.drew)
  (h:wpE P l.toArray ⟨S,G,F⟩ (Q .normal) l a w.drew):(Code.region id l.toArray aF).wp P Q a w:=region_at _ S G F hm hc (lst_all l) hS h
def isX(P:aZ)(o:bA):Bool:=
 match o.op with
 | .convert s d _=>match P.underlying s,P.underlying d with
  |some .string,aE (.slice _)=>aF
  |_,_=>aD
 | .move _| .assign _| .pick .. | .binOp .. | .unOp .. | .slice .. | .indexAddr .. | .extract .. | .field .. | .fieldAddr .. | .makeInterface .. | .nilCheck _| .index .. | .build .. | .load .. =>aD
 | .call c=>match c.callee with
  | .builtin .len| .builtin .cap=>aD
  |_=>aF
 |_=>aF
theorem rd_of(F:List Tmp)(d:Option Tmp):(match d with|some d=>if F.contains d then 3 else 1|none=>1)=1∨(match d with|some d=>if F.contains d then 3 else 1|none=>1)=3:=by
 cases d with
 |none=>exact .inl D
 |some d=>by_cases h:F.contains d=aF<;>simp only[h,if_true,Bool.false_eq_true,if_false]<;>simp
theorem kind_of_not{F:List Tmp}{o:bA}(h:isX P o=aD):kindOf P F o≠2:=by
 obtain⟨d,op,ty,pos,af,g⟩:=o;have hrd:=rd_of F d;cases op<;>simp only[isX,kindOf] at h ⊢ <;>first|(simp;done)|omega|(cases h;done)|skip
 case convert s d' x=>
  split at h
  ·cases h
  ·split<;>first|omega|(simp;done)|(exact(‹∀elem,P.underlying s=aE TypeDesc.string→P.underlying d'=aE (TypeDesc.slice elem)→False› _ (by assumption) (by assumption)).elim)
 case call c=>
  obtain⟨ce,ar,ts⟩:=c
  cases ce with
  |builtin b=>cases b<;>simp at h ⊢
  |_=>simp at h
theorem kind_of_x{F:List Tmp}{o:bA}(h:isX P o=aF):kindOf P F o=2:=by
 obtain⟨d,op,ty,pos,af,g⟩:=o;cases op<;>simp only[isX,kindOf] at h ⊢ <;>first|rfl|(cases h;done)|skip
 case convert s d' x=>
  split at h
  ·rename_i e1 e2;simp only[e1,e2]
  ·cases h
 case call c=>
  obtain⟨ce,ar,ts⟩:=c
  cases ce with
  |builtin b=>cases b<;>simp at h ⊢
  |_=>simp
theorem kind_load{F:List Tmp}{d:Option Tmp}{x:Operand}{t ty:aY}{pos:String}{af:Array Edge}{g:Option (Nat × Bool)} :kindOf P F ⟨d,.load t x,ty,pos,af,g⟩=1∨kindOf P F ⟨d,.load t x,ty,pos,af,g⟩=3:=by
 have:=kind_lt P F ⟨d,.load t x,ty,pos,af,g⟩;simp only[kindOf]
 cases d with
 |none=>exact .inl D
 |some d=>by_cases h:F.contains d=aF<;>simp only[h,if_true,Bool.false_eq_true,if_false]<;>simp
variable {r:List Oper} {o:Oper} {a:Act} {w:World}
theorem e_nil(h:R a w):wpE P ops G R [] a w:=h
theorem e_u(hw:Region.wanted o (bC ops a.tmps)=aD)(h:wpE P ops G R r (a.put o.dst undef) w):wpE P ops G R (o::r) a w:=by
 rw[skip_iff (by rw[hw];simp)];exact h
theorem e_p{v:aT}(hk:isX P o=aD)(hw:Region.wanted o (bC ops a.tmps)=aF)(hy: ∀w2,(bD a.eval o).run P w2= .ok (.value v) w2)(h:wpE P ops G R r (a.put o.dst v) w):wpE P ops G R (o::r) a w:=by
 have yM:=kind_of_not (P:=P) (F:=G.F) hk;rw[quiet_iff hw yM];refine⟨v,?_,h⟩;rcases kind_lt P G.F o with h'|h'|h'|h'
 ·exact .inl ⟨h',hy⟩
 ·exact .inr (.inl ⟨h',fun w2 _=>hy w2⟩)
 ·exact absurd h' yM
 ·exact .inr (.inr ⟨h',fun w2 _=>hy w2⟩)
theorem e_r{v:aT}(hk:kindOf P G.F o=1∨kindOf P G.F o=3)(hw:Region.wanted o (bC ops a.tmps)=aF)(hy:(kindOf P G.F o=3∧Stays P o v a w)∨(∀w2,G.S w2→(bD a.eval o).run P w2= .ok (.value v) w2)∧(kindOf P G.F o=3→Stays P o v a w))(h:wpE P ops G R r (a.put o.dst v) w):wpE P ops G R (o::r) a w:=by
 rw[quiet_iff hw (by omega)];refine⟨v,?_,h⟩;rcases hk with hk|hk
 ·rcases hy with⟨h',_⟩|⟨h1,_⟩
  ·omega
  ·exact .inr (.inl ⟨hk,h1⟩)
 ·rcases hy with⟨_,h1⟩|⟨_,h1⟩
  ·exact .inr (.inr ⟨hk,h1⟩)
  ·exact .inr (.inr ⟨hk,h1 hk⟩)
def Seg(P:aZ)(ops:Array bA)(G:Cfg)(R:Act→aS→Prop)(o:bA)(r:List bA)(w:aS)(e:Exit)(a':Act)(w':aS):Prop:=e= .normal∧(G.S w'∧(grows G.G G.F o=aF→aV w.heap.size w w'))∧wpE P ops G R r a' w'
theorem Seg.go{a':Act}{w':aS}(hS:G.S w')(hb:grows G.G G.F o=aF→aV w.heap.size w w')(h:wpE P ops G R r a' w'):Seg P ops G R o r w .normal a' w':=⟨D,⟨hS,hb⟩,h⟩
theorem e_x(hk:isX P o=aF)(hw:Region.wanted o (bC ops a.tmps)=aF)(h:wpList P ops (Seg P ops G R o r w) [o] a w):wpE P ops G R (o::r) a w:=by
 rw[loud_iff hw (kind_of_x hk)];unfold wpList at h;rw[if_pos hw] at h;rcases h with h|⟨_,_,_,h⟩
 ·have hq: ∀(rs:Result Next),o.upon P a (wpList P ops (Seg P ops G R o r w) []) (Seg P ops G R o r w) rs→o.upon P a (fun a' w'=>(G.S w'∧(grows G.G G.F o=aF→aV w.heap.size w w'))∧wpE P ops G R r a' w') QF rs:=by
   intro rs hh
   cases rs with
   |ok n w'=>
    cases n<;>simp only[Oper.upon] at hh ⊢
    case value u=>exact hh.2
    case skip=>exact hh.2
    case defer d=>exact hh.2
    case enter f args=>exact xX hh (fun e Gz he=>by
      cases e with
      |returned v=>exact he.2
      |panicked c=>exact Exit.noConfusion he.1
      |outgrown=>obtain⟨_,_,he⟩:=he;exact Exit.noConfusion he.1)
    case row row args=>exact Rows.mono hh (fun _ _ he=>he.2)
   |halt x w'=>
    cases x<;>simp only[Oper.upon] at hh ⊢
    case panic u=>exact Exit.noConfusion hh.1
  exact hq _ h
 ·exact Exit.noConfusion h.1
theorem run_load1{x:Operand}{t:aY}{d:Option Tmp}{ty:aY}{pos:String}{af:Array Edge}{g:Option (Nat × Bool)}{ad:aW}{v:aT}{ds:TypeDesc}
  (ht:P.underlying t=aE ds) (Ga:(match ds with| .struct _=>aD| .array _ _=>aD|_=>aF)=aF) (hx:a.eval x=aK (aE ad)) {w2:aS} (Tx:w2.cell? ad=aE v):
  (bD a.eval ⟨d,.load t x,ty,pos,af,g⟩).run P w2= .ok (.value v) w2:=by
 have ha:(isAgg t).run P w2= .ok aD w2:=by unfold isAgg;rw[run_bind_of' (dE ht w2)];cases ds<;>simp at Ga<;>rfl
 unfold bD;simp only[hx];have hl:(Instr.loadAt t (aK (aE ad))).run P w2= .ok v w2:=by unfold Instr.loadAt loadVar;simp only[Instr.sureAddr,eB,jU,eD,ha];simp[load,Sem.run,Tx]
 simp only[eB,hl,eD,jU]
theorem e_loadS{d:Option Tmp}{x:Operand}{t ty:aY}{pos:String}{af:Array Edge}{g:Option (Nat × Bool)}{ad:aW}{v:aT}{ds:TypeDesc}
  (ht:P.underlying t=aE ds) (Ga:(match ds with| .struct _=>aD| .array _ _=>aD|_=>aF)=aF) (hc: ∀w2,G.S w2→w2.cell? ad=aE v) (hS:G.S w) (hx:a.eval x=aK (aE ad))
  (hw:Region.wanted ⟨d,.load t x,ty,pos,af,g⟩ (bC ops a.tmps)=aF) (hk:wpE P ops G R r (a.put d v) w):wpE P ops G R (⟨d,.load t x,ty,pos,af,g⟩::r) a w:=
 e_r kind_load hw (.inr ⟨fun w2 hS2=>run_load1 ht Ga hx (hc w2 hS2),fun _ w2 hb=>run_load1 ht Ga hx ((hb.cell (World.block_lt_of_cell? w ad (hc w hS))).trans (hc w hS))⟩) hk
theorem e_load{d:Tmp}{x:Operand}{t ty:aY}{pos:String}{af:Array Edge}{g:Option (Nat × Bool)}{ad:aW}{v:aT}{ds:TypeDesc}
  (ht:P.underlying t=aE ds) (Ga:(match ds with| .struct _=>aD| .array _ _=>aD|_=>aF)=aF) (hc:w.cell? ad=aE v) (hx:a.eval x=aK (aE ad))
  (hF:G.F.contains d=aF) (hw:Region.wanted ⟨aE d,.load t x,ty,pos,af,g⟩ (bC ops a.tmps)=aF) (hk:wpE P ops G R r (a.put (aE d) v) w):wpE P ops G R (⟨aE d,.load t x,ty,pos,af,g⟩::r) a w:=
 e_r kind_load hw (.inl ⟨by simp only[kindOf,hF,if_true],fun w2 hb=>run_load1 ht Ga hx ((hb.cell (World.block_lt_of_cell? w ad hc)).trans hc)⟩) hk
theorem run_loadR{x:Operand}{t:aY}{d:Option Tmp}{ty:aY}{pos:String}{af:Array Edge}{g:Option (Nat × Bool)}{b o:Nat}{cs:List aT}{ds:TypeDesc}
  (hu:P.underlying t=aE ds) (hd:ds.isRow=aF) (hi:(P.info? t).map (·.size)=aE cs.length) (hx:a.eval x=aK (aE ⟨b,o,J⟩)) {w2:aS} (hc:w2.rangeAt b o cs):
  (bD a.eval ⟨d,.load t x,ty,pos,af,g⟩).run P w2= .ok (.value (.agg cs.toArray)) w2:=by
 unfold bD;simp only[hx,eB,run_loadAt_mid w2 b o t cs ds hc hu hd hi,eD,jU]
theorem e_rowS{d:Option Tmp}{x:Operand}{t ty:aY}{pos:String}{af:Array Edge}{g:Option (Nat × Bool)}{b o:Nat}{cs:List aT}{ds:TypeDesc}
  (hu:P.underlying t=aE ds) (hd:ds.isRow=aF) (hi:(P.info? t).map (·.size)=aE cs.length) (hx:a.eval x=aK (aE ⟨b,o,J⟩)) (hne:cs≠ []) (hc: ∀w2,G.S w2→w2.rangeAt b o cs) (hS:G.S w)
  (hw:Region.wanted ⟨d,.load t x,ty,pos,af,g⟩ (bC ops a.tmps)=aF) (hk:wpE P ops G R r (a.put d (.agg cs.toArray)) w):wpE P ops G R (⟨d,.load t x,ty,pos,af,g⟩::r) a w:=
 e_r kind_load hw (.inr ⟨fun w2 hS2=>run_loadR hu hd hi hx (hc w2 hS2),fun _ w2 hb=>run_loadR hu hd hi hx (fun j v hv=>(hb.cell (p:=⟨b,o+j,J⟩) (by
  have:=World.block_lt_of_cell? w _ (hc w hS j v hv);exact this)).trans (hc w hS j v hv))⟩) hk
theorem e_row{d:Tmp}{x:Operand}{t ty:aY}{pos:String}{af:Array Edge}{g:Option (Nat × Bool)}{b o:Nat}{cs:List aT}{ds:TypeDesc}
  (hu:P.underlying t=aE ds) (hd:ds.isRow=aF) (hi:(P.info? t).map (·.size)=aE cs.length) (hx:a.eval x=aK (aE ⟨b,o,J⟩)) (hc:w.rangeAt b o cs)
  (hF:G.F.contains d=aF) (hw:Region.wanted ⟨aE d,.load t x,ty,pos,af,g⟩ (bC ops a.tmps)=aF) (hk:wpE P ops G R r (a.put (aE d) (.agg cs.toArray)) w):wpE P ops G R (⟨aE d,.load t x,ty,pos,af,g⟩::r) a w:=
 e_r kind_load hw (.inl ⟨by simp only[kindOf,hF,if_true],fun w2 hb=>run_loadR hu hd hi hx (fun j v hv=>(hb.cell (p:=⟨b,o+j,J⟩) (by
  have:=World.block_lt_of_cell? w _ (hc j v hv);exact this)).trans (hc j v hv))⟩) hk
theorem K{v:aT}{Z:Prop}(h:Z)(h1:isX P o=aD:=by exact D)(h2:Region.wanted o (bC ops a.tmps)=aF:=by kernel_rfl)(h3: ∀w2,(bD a.eval o).run P w2= .ok (.value v) w2:=by(intro w2;go_simp;try with_reducible rfl))
  (h4:wpE P ops G R r (a.put o.dst v) w=Z:=by((try simp only[Act.put,cE,cW,cX]);exact D)):wpE P ops G R (o::r) a w:=e_p h1 h2 h3 (h4▸h)
theorem KR{v:aT}{Z:Prop}(h:Z)(h1:isX P o=aD:=by exact D)(h2:Region.wanted o (bC ops a.tmps)=aF:=by exact D)(h3: ∀w2,(bD a.eval o).run P w2= .ok (.value v) w2:=by(intro w2;go_simp;try with_reducible rfl))
  (h4:wpE P ops G R r (a.put o.dst v) w=Z:=by((try simp only[Act.put,cE,cW,cX]);exact D)):wpE P ops G R (o::r) a w:=e_p h1 h2 h3 (h4▸h)
theorem U{Z:Prop}(h:Z)(h2:Region.wanted o (bC ops a.tmps)=aD:=by kernel_rfl)
  (h4:wpE P ops G R r (a.put o.dst undef) w=Z:=by((try simp only[Act.put,cE,cW,cX]);exact D)):wpE P ops G R (o::r) a w:=e_u h2 (h4▸h)
theorem UR{Z:Prop}(h:Z)(h2:Region.wanted o (bC ops a.tmps)=aD:=by exact D)
  (h4:wpE P ops G R r (a.put o.dst undef) w=Z:=by((try simp only[Act.put,cE,cW,cX]);exact D)):wpE P ops G R (o::r) a w:=e_u h2 (h4▸h)
theorem X(h:wpList P ops (Seg P ops G R o r w) [o] a w)(h1:isX P o=aF:=by exact D)(h2:Region.wanted o (bC ops a.tmps)=aF:=by kernel_rfl):wpE P ops G R (o::r) a w:=e_x h1 h2 h
theorem XR(h:wpList P ops (Seg P ops G R o r w) [o] a w)(h1:isX P o=aF:=by exact D)(h2:Region.wanted o (bC ops a.tmps)=aF:=by exact D):wpE P ops G R (o::r) a w:=e_x h1 h2 h
end
end Ord
theorem PT{G G':Prop}(h:G')(h4:G=G':=by((try simp only[Act.put,cE,cW,cX]);exact D)):G:=h4▸h
abbrev cC:=@Ord.Seg.go
abbrev cQ:=@Ord.region_
abbrev cR:=@Ord.e_loadS
abbrev cV:=@Ord.e_nil
abbrev eA:=@Ord.e_rowS
abbrev eP:=@Ord.e_load
abbrev fP:=@Ord.UR
abbrev fQ:=@Ord.KR
abbrev kS:=@Ord.e_row
abbrev qB:=@Ord.XR
abbrev fL:=@List.mem_cons
abbrev mJ:=@List.mem_append
abbrev qC:=@List.mem_append_right
abbrev xV:=@bne_iff_ne
namespace Ord
section
variable {P:Program} {ops:Array Oper} {G:Cfg}
theorem ready_ne{M:List Nat}(hM:okMasks ops M=aF){listed:Array Bool}(iJ:listed.size=ops.size){i:Nat}(fF:i<ops.size)(Yz:listed.getD i aF=aD):Region.ready .any ops listed≠ []:=by
 intro h0
 have J3: ∀m,∀i,i<m→i<ops.size→listed.getD i aF=aD→False:=by
  intro m
  induction m with
  |zero=>intro i hi;omega
  |succ m pd=>
   intro i hi fF Yz;by_cases hall: ∀o,ops[i]?=aE o→∀e∈o.after,Region.binds .any e=aF→listed.getD e.on aD=aF
   ·have:i∈Region.ready .any ops listed:=mem_ready.2 ⟨Yz,ops[i],dL fF,hall _ (dL fF)⟩;rw[h0] at this;cases this
   ·have h1:=List.all_eq_true.1 hM i (List.mem_range.2 fF);rw[dL fF] at h1;simp only[dP,mI] at h1;apply hall;intro o ho e he hb;rw[dL fF] at ho;injection ho with ho;subst ho;have zx:e.on<i:=by have:=List.all_eq_true.1 h1.2 e (by simpa using he);simpa [hb] using this
    cases zB:listed.getD e.on aF with
    |false=>exact(pd e.on (by omega) (by omega) zB).elim
    |true=>
     have:e.on<listed.size:=by omega
     simpa [this] using zB
 exact J3 (i+1) i (by omega) fF Yz
def Valid(M:List Nat)(s:List Nat):Prop:=s.Pairwise fun x y=>x≠y∧(M.getD x 0).testBit y=aD
theorem lin_valid{M:List Nat}(hM:okMasks ops M=aF): ∀(n t:Nat) (listed:Array Bool) (L:List Nat),L.length=n→listed.size=ops.size→(∀i,i∈L↔i<ops.size∧listed.getD i aF=aD)→L.Pairwise (· ≠ ·)→Closed ops listed→
  (∀i,i∈Region.linearise.go .any ops n t listed []↔i∈L)∧Valid M (Region.linearise.go .any ops n t listed []):=by
 intro n
 induction n with
 |zero=>
  intro t listed L hn iJ hL hp hc;obtain rfl:L= []:=cU hn;simp[Region.linearise.go,Valid]
 |succ n ih=>
  intro t listed L hn iJ hL hp hc
  have hne:Region.ready .any ops listed≠ []:=by
   cases L with
   |nil=>simp at hn
   |cons x xs=>
    obtain⟨h1,h2⟩:=(hL x).1 List.mem_cons_self;exact ready_ne hM iJ h1 h2
  have hlen:0<(Region.ready .any ops listed).length:=List.length_pos_iff.2 hne;simp only[Region.linearise.go]
  change(∀i,i∈(match(Region.ready .any ops listed)[t %(Region.ready .any ops listed).length]? with
   |some i=>Region.linearise.go .any ops n (t/(Region.ready .any ops listed).length) (listed.setIfInBounds i aF) [i]
   |none=> [].reverse)↔i∈L)∧Valid M (match(Region.ready .any ops listed)[t %(Region.ready .any ops listed).length]? with
   |some i=>Region.linearise.go .any ops n (t/(Region.ready .any ops listed).length) (listed.setIfInBounds i aF) [i]
   |none=> [].reverse)
  have z7:t %(Region.ready .any ops listed).length<(Region.ready .any ops listed).length:=Nat.mod_lt _ hlen;rw[cF z7];have hi:(Region.ready .any ops listed)[t %(Region.ready .any ops listed).length]∈Region.ready .any ops listed:=List.getElem_mem _;generalize(Region.ready .any ops listed)[t %(Region.ready .any ops listed).length]=i at*;simp only;rw[linearise_go_acc,List.reverse_singleton,List.singleton_append];obtain⟨h0,o,ho,hall⟩:=mem_ready.1 hi;have fF:i<ops.size:=(Array.getElem?_eq_some_iff.1 ho).1;obtain⟨p,s,rfl⟩:=pO ((hL i).2 ⟨fF,h0⟩);have hpa:=List.pairwise_append.1 hp;have CQ:(p++s).Pairwise (· ≠ ·):=hp.sublist ((qO p).append (mQ i s));have W5:i ∉ p:=fun hm=>(hpa.2.2 i hm i List.mem_cons_self) D;have Ga:i ∉ s:=fun hm=>((List.pairwise_cons.1 hpa.2.1).1 i hm) D
  obtain⟨ih1,ih2⟩:=ih (t/(Region.ready .any ops listed).length) (listed.setIfInBounds i aF) (p++s) (by simp at hn ⊢;omega) (by simpa using iJ) (by
   intro k;by_cases M6:i=k
   ·subst M6;have je:i<listed.size:=by omega
    simp[W5,Ga,je]
   ·rw[vW aF M6,←hL k]
    simp[oL M6]) CQ (by
   intro k ok hk hl e he hb;by_cases M6:i=k
   ·subst M6;rw[ho] at hk;injection hk with hk;subst hk;exact sF (hall e he hb)
   ·rw[vW aF M6] at hl
    exact sF (hc k ok hk hl e he hb))
  refine⟨fun k=> ?_,List.pairwise_cons.2 ⟨fun y hy=> ?_,ih2⟩⟩
  ·rw[fL,ih1 k];simp only[mJ,fL];constructor
   ·rintro(h|h|h)
    ·exact .inr (.inl h)
    ·exact .inl h
    ·exact .inr (.inr h)
   ·rintro(h|h|h)
    ·exact .inr (.inl h)
    ·exact .inl h
    ·exact .inr (.inr h)
  ·have hy':=(ih1 y).1 hy;refine⟨fun e=> ?_,?_⟩
   ·subst e;rcases List.mem_append.1 hy' with h|h
    ·exact W5 h
    ·exact Ga h
   ·cases hb:(M.getD i 0).testBit y with
    |false=>rfl
    |true=>
     have h1:=dep_listed hM hc i i (bM _) (fun o' Tw=>by rw[ho] at Tw;injection Tw with Tw;subst Tw;exact hall) fF y hb
     have h2:=((hL y).1 (by
      rcases List.mem_append.1 hy' with h|h
      ·exact nX _ h
      ·exact qC _ (List.mem_cons_of_mem _ h))).2
     rw[getD_tf h1] at h2;cases h2
def Ahead:List Nat→Nat→Nat→Prop
 | [],_,_=>False
 |x::s,i,j=>(x=i∧j∈s)∨Ahead s i j
theorem ahead_mem: ∀ {s:List Nat} {i j:Nat},Ahead s i j→i∈s∧j∈s
 |x::s,i,j,h=>by
  rcases h with⟨rfl,h⟩|h
  ·exact⟨List.mem_cons_self,List.mem_cons_of_mem _ h⟩
  ·obtain⟨h1,h2⟩:=ahead_mem h;exact⟨List.mem_cons_of_mem _ h1,List.mem_cons_of_mem _ h2⟩
theorem ops_of(hN:Region.noSelect ops=aF){Q:Exit→Act→aS→Prop} : ∀(s L:List Nat) (a:Act) (w:aS),(∀i,i∈s↔i∈L)→s.Pairwise (· ≠ ·)→L.Pairwise (fun j i=>j≠i∧(Ahead s i j→commI P ops G.G G.F j i=aF))→(∀i∈s,i<ops.size)→G.S w→
  wpE P ops G (Q .normal) (lst ops L) a w→wpOps P ops Q s a w
 | [],L,a,w,hm,hs,hp,iJ,hS,h=>by
  obtain rfl:L= []:=by
   cases L with
   |nil=>rfl
   |cons x xs=>exact absurd ((hm x).2 List.mem_cons_self) (by simp)
  exact h
 |x::s,L,a,w,hm,hs,hp,iJ,hS,h=>by
  obtain⟨p,q,rfl⟩:=pO ((hm x).1 List.mem_cons_self);have hpa:=List.pairwise_append.1 hp;have W5:x ∉ p:=fun hm=>(hpa.2.2 x hm x List.mem_cons_self).1 D;have jj:x ∉ q:=fun hm=>((List.pairwise_cons.1 hpa.2.1).1 x hm).1 D;have EG: ∀y∈s,x≠y:=(List.pairwise_cons.1 hs).1
  have db: ∀j∈p,commI P ops G.G G.F j x=aF:=fun j hj=>(hpa.2.2 j hj x List.mem_cons_self).2 (.inl ⟨D,by
   have:=(hm j).2 (nX _ hj);rcases List.mem_cons.1 this with rfl|h
   ·exact absurd hj W5
   ·exact h⟩)
  have fF:x<ops.size:=iJ x List.mem_cons_self;have ho:ops[x]?=aE ops[x]:=dL fF;have h':=move_ hN p db a w hS h;rw[lst_cons ho] at h';rw[wpOps_cons];refine wpOp_mono (fun a' w' hx=>ops_of hN s (p++q) a' w' (fun i=> ?_) (List.pairwise_cons.1 hs).2 ?_ (fun i hi=>iJ i (List.mem_cons_of_mem _ hi)) hx.1 hx.2) (head_ ho hS h')
  ·constructor
   ·intro hi;have:=(hm i).1 (List.mem_cons_of_mem _ hi);have hne:=EG i hi;simp only[mJ,fL] at this ⊢;rcases this with h|h|h
    ·exact .inl h
    ·exact absurd h.symm hne
    ·exact .inr h
   ·intro hi
    have h1:i∈x::s:=(hm i).2 (by
     simp only[mJ,fL] at hi ⊢;rcases hi with h|h
     ·exact .inl h
     ·exact .inr (.inr h))
    rcases List.mem_cons.1 h1 with rfl|h2
    ·rcases List.mem_append.1 hi with h|h
     ·exact absurd h W5
     ·exact absurd h jj
    ·exact h2
  ·exact(hp.sublist ((qO p).append (mQ x q))).imp fun h=>⟨h.1,fun ha=>h.2 (.inr ha)⟩
def before:List Nat→Nat→Nat→Bool
 | [],_,_=>aD
 |x::r,j,i=>if x==j then r.contains i else before r j i
theorem pairwise_before: ∀ {L:List Nat},L.Pairwise (· ≠ ·)→L.Pairwise (fun j i=>before L j i=aF)
 | [],_=>List.Pairwise.nil
 |x::r,h=>by
  obtain⟨h1,h2⟩:=List.pairwise_cons.1 h;refine List.Pairwise.cons (fun i hi=>by simp[before,hi]) ?_;refine List.Pairwise.imp_of_mem (fun {j i} hj hi h=> ?_) (pairwise_before h2);have:(x==j)=aD:=by simpa using h1 j hj
  simp[before,this,h]
def cov(P:aZ)(ops:Array bA)(G:Bool)(F:List Tmp)(M:List Nat):Nat→List Nat→List (List Nat)→Bool
 |0,_,Ls=> !Ls.isEmpty
 |n+1,rem,Ls=> !Ls.isEmpty && rem.all fun x=>(rem.any fun y=>y !=x &&(M.getD x 0).testBit y)||cov P ops G F M n (rem.filter fun y=>y !=x) (Ls.filter fun L=>rem.all fun j=>j==x|| !before L j x||commI P ops G F j x)
theorem cov_spec{b:Bool}{F:List Tmp}{M:List Nat} : ∀(s:List Nat) (n:Nat) (rem:List Nat) (Ls:List (List Nat)),cov P ops b F M n rem Ls=aF→rem.length≤n→(∀i∈rem,i∈s)→Valid M s→
  ∃L∈Ls,∀j i,j∈rem→i∈rem→Ahead s i j→before L j i=aF→commI P ops b F j i=aF:=by
 intro s
 induction s with
 |nil=>
  intro n rem Ls hc hn hm hv;obtain rfl:rem= []:=List.eq_nil_iff_forall_not_mem.2 fun i hi=>absurd (hm i hi) (by simp);have:Ls.isEmpty=aD:=by cases n<;>simp[cov] at hc<;>simpa using hc
  cases Ls with
  |nil=>cases this
  |cons L r=>exact⟨L,List.mem_cons_self,fun j i hj=>absurd hj (by simp)⟩
 |cons x s ih=>
  intro n rem Ls hc hn hm hv;obtain⟨Cp,Ez⟩:=List.pairwise_cons.1 hv;by_cases hx:x∈rem
  ·cases n with
   |zero=>
    obtain rfl:rem= []:=cU (by omega);cases hx
   |succ n=>
    simp only[cov,dP] at hc;have h1:=List.all_eq_true.1 hc.2 x hx;rw[mK] at h1;rcases h1 with h1|h1
    ·exfalso;obtain⟨y,hy,hxy⟩:=List.any_eq_true.1 h1;simp only[dP,xV] at hxy;rcases List.mem_cons.1 (hm y hy) with rfl|h2
     ·exact hxy.1 D
     ·rw[(Cp y h2).2] at hxy;exact Bool.noConfusion hxy.2
    ·have hlen:(rem.filter fun y=>y !=x).length≤n:=by
      have:(rem.filter fun y=>y !=x).length<rem.length:=by rw[List.length_filter_lt_length_iff_exists];exact⟨x,hx,by simp⟩
      omega
     obtain⟨L,hL,hp⟩:=ih n _ _ h1 hlen (fun i hi=>by
      obtain⟨As,zC⟩:=List.mem_filter.1 hi;rcases List.mem_cons.1 (hm i As) with rfl|h2
      ·simp at zC
      ·exact h2) Ez
     obtain⟨NV,CS⟩:=List.mem_filter.1 hL;refine⟨L,NV,fun j i hj hi ha hb=> ?_⟩;have Tg: ∀y∈s,y≠x:=fun y hy e=>(Cp y hy).1 e.symm;rcases ha with⟨rfl,hjs⟩|ha
     ·have:=List.all_eq_true.1 CS j hj;have hjx:=Tg j hjs;simpa [hb,hjx] using this
     ·obtain⟨ha1,ha2⟩:=ahead_mem ha;exact hp j i (List.mem_filter.2 ⟨hj,by simpa using Tg j ha2⟩) (List.mem_filter.2 ⟨hi,by simpa using Tg i ha1⟩) ha hb
  ·obtain⟨L,hL,hp⟩:=ih n rem Ls hc hn (fun i hi=>by
    rcases List.mem_cons.1 (hm i hi) with rfl|h2
    ·exact absurd hi hx
    ·exact h2) Ez
   refine⟨L,hL,fun j i hj hi ha hb=>hp j i hj hi ?_ hb⟩;rcases ha with⟨rfl,_⟩|ha
   ·exact absurd hi hx
   ·exact ha
def pairM(P:aZ)(ops:Array bA)(G:Bool)(F:List Tmp)(M X:List Nat):List Nat→Bool
 | []=>aF
 |j::r=>r.all (fun i=>i !=j &&((M.getD i 0).testBit j||commI P ops G F j i||(X.contains j && X.contains i))) && pairM P ops G F M X r
theorem pairM_spec{b:Bool}{F:List Tmp}{M X:List Nat} : ∀ {L:List Nat},pairM P ops b F M X L=aF→L.Pairwise (fun j i=>i≠j∧((M.getD i 0).testBit j=aF∨commI P ops b F j i=aF∨(j∈X∧i∈X)))
 | [],_=>List.Pairwise.nil
 |j::r,h=>by simp only[pairM,dP] at h;refine List.Pairwise.cons (fun i hi=> ?_) (pairM_spec h.2);have:=List.all_eq_true.1 h.1 i hi;simp only[dP,xV,mK,List.contains_iff_mem] at this;exact⟨this.1,by rcases this.2 with(h|h)|h<;>first|exact .inl h|exact .inr (.inl h)|exact .inr (.inr h)⟩
def chkM(P:aZ)(ops:Array bA)(G:Bool)(F:List Tmp)(X:List Nat)(Ls:List (List Nat)):Bool:=
 Region.noSelect ops && okMasks ops (masks ops) && X.all (fun i=>decide (i<ops.size)) && cov P ops G F (masks ops) X.length X Ls &&
  Ls.all fun L=>pairM P ops G F (masks ops) X L &&(List.range ops.size).all (fun i=>L.contains i) && L.all (fun i=>decide (i<ops.size)) && L.length==ops.size
theorem valid_not{M:List Nat} : ∀ {s:List Nat},Valid M s→∀ {i j:Nat},Ahead s i j→(M.getD i 0).testBit j=aD
 |x::s,h,i,j,ha=>by
  obtain⟨h1,h2⟩:=List.pairwise_cons.1 h;rcases ha with⟨rfl,hj⟩|ha
  ·exact(h1 j hj).2
  ·exact valid_not h2 ha
theorem region_m{id:Nat}{l:List bA}{a:Act}{w:aS}{Q:Exit→Act→aS→Prop}(X:List Nat)(Ls:List (List Nat))(S:aS→Prop)(G:Bool)(F:List Tmp)(hm:P.follows .mixedOrders=aF)(hc:chkM P l.toArray G F X Ls=aF)(hS:S w.drew)
  (h: ∀L∈Ls,wpE P l.toArray ⟨S,G,F⟩ (Q .normal) (lst l.toArray L) a w.drew):(Code.region id l.toArray aF).wp P Q a w:=by
 simp only[chkM,dP] at hc;obtain⟨⟨⟨⟨h1,h2⟩,h3⟩,h4⟩,h5⟩:=hc;refine wp_region_draw fun t=> ?_;simp only[Region.schedule,hm,Bool.true_or,if_true];have hall: ∀L∈Ls,L.Pairwise (· ≠ ·)∧(∀i,i∈L↔i<l.toArray.size)∧L.length=l.toArray.size∧L.Pairwise (fun j i=>i≠j∧(((masks l.toArray).getD i 0).testBit j=aF∨commI P l.toArray G F j i=aF∨(j∈X∧i∈X))):=by intro L hL;have:=List.all_eq_true.1 h5 L hL;simp only[dP,mI] at this;obtain⟨⟨⟨g1,g2⟩,g3⟩,g4⟩:=this;have hp:=pairM_spec g1;refine⟨hp.imp fun h=>oL h.1,fun i=>⟨fun hi=>by simpa using List.all_eq_true.1 g3 i hi,fun hi=>by simpa using List.all_eq_true.1 g2 i (List.mem_range.2 hi)⟩,g4,hp⟩
 have hne: ∃L0,L0∈Ls:=by
  have:Ls.isEmpty=aD:=by cases hX:X.length<;>rw[hX] at h4<;>simp[cov] at h4<;>simp[h4]
  cases Ls with
  |nil=>cases this
  |cons L r=>exact⟨L,List.mem_cons_self⟩
 obtain⟨L0,hL0⟩:=hne;obtain⟨e1,e2,e3,_⟩:=hall L0 hL0
 have dg:=lin_valid (ops:=l.toArray) h2 l.toArray.size t (Array.replicate l.toArray.size aD) L0 e3 (by simp) (fun i=>by
  rw[e2 i];constructor
  ·intro hi;refine⟨hi,?_⟩;simp at hi;simp[hi]
  ·exact fun hi=>hi.1) e1 (fun k o hk hl=>by
   obtain⟨Td,_⟩:=Array.getElem?_eq_some_iff.1 hk;simp at Td
   simp[Td] at hl)
 change wpOps P l.toArray Q (Region.linearise.go .any l.toArray l.toArray.size t (Array.replicate l.toArray.size aD) []) a w.drew;generalize Region.linearise.go .any l.toArray l.toArray.size t (Array.replicate l.toArray.size aD) []=s at*;obtain⟨W9,hv⟩:=dg;obtain⟨L,hL,hp⟩:=cov_spec s X.length X Ls h4 (bM _) (fun i hi=>(W9 i).2 ((e2 i).2 (by simpa using List.all_eq_true.1 h3 i hi))) hv;obtain⟨f1,f2,f3,f4⟩:=hall L hL;refine ops_of (G:=⟨S,G,F⟩) h1 s L a _ (fun i=>by rw[W9 i,e2 i,f2 i]) (hv.imp fun h=>h.1) ?_ (fun i hi=>(e2 i).1 ((W9 i).1 hi)) hS (h L hL);have hb:=pairwise_before f1;refine(f4.and hb).imp fun {j i} h=>⟨oL h.1.1,fun ha=> ?_⟩;rcases h.1.2 with g|g|⟨g1,g2⟩
 ·rw[valid_not hv ha] at g;cases g
 ·exact g
 ·exact hp j i g1 g2 ha h.2
end
end Ord
end
end Go.Proofs.YtfoabhdppkjmbaaGreat
