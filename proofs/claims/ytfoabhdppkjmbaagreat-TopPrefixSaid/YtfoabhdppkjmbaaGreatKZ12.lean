import Derived.Test.YtfoabhdppkjmbaaGreatKZ7
import Derived.RangeFuncSeq
import Derived.JoinedOf
import Derived.ClosedOfChecked
set_option linter.unusedSimpArgs false
set_option linter.unusedVariables false
set_option maxHeartbeats 4000000
set_option maxRecDepth 10000
namespace Go.Proofs.YtfoabhdppkjmbaaGreat
open Bool renaming false→aD,true→aF
open Go renaming Addr→aW,Calls→aU,Oper→bA,Program→aZ,TypeId→aY,Value→aT,World→aS,execOp→bD,typeInfo→bF,yielded→bC
open Go.Ending renaming returned→aJ
open Go.IntKind renaming i32→aO,i64→Y,u32→aR,u64→aQ
open Go.Obj renaming cells→aI
open Go.Proofs.Tryz renaming prog→bH
open Go.RowKit renaming Below→aV,intOf→bE
open Go.Value renaming agg→aM,bool→aG,int→O,pointer→aK,slice→aL,tuple→aN
open Option renaming none→J,some→aE
open Go.Proofs.Tryz
namespace NumLaw
end NumLaw
section
open Go.RowKit
theorem Lv(off:Nat): ∀(cs pre olds post:List aT) (k:Nat),olds.length=cs.length→pre.length=off+k→
  (cs.zipIdx k).foldl (fun a (p:aT × Nat)=>a.setIfInBounds (off+p.2) p.1) (pre++olds++post).toArray=(pre++cs++post).toArray
 | [],pre,olds,post,k,h,_=>by obtain rfl:olds= []:=cU (by simpa using h);rfl
 |c::cs,pre,[],post,k,h,_=>by simp at h
 |c::cs,pre,o::olds,post,k,h,hp=>by
  have ih:=Lv off cs (pre++ [c]) olds post (k+1) (by simpa using h) (by simp;omega);rw[List.zipIdx_cons,List.foldl_cons];have e:((pre++o::olds++post).toArray).setIfInBounds (off+k) c=((pre++ [c])++olds++post).toArray:=by rw[←hp];simp
  rw[e,ih];simp
theorem mE{place:Nat→Option (Nat × Nat)}{i off size:Nat}(hp:place i=aE (off,size)){cs pre olds post:List aT}{v:aT}(hv:v.cells=cs.toArray)(hc:cs.length=size)(ho:olds.length=size)(hpre:pre.length=off)(rest:List (Nat × aT)):
  Instr.fill place (pre++olds++post).toArray ((i,v)::rest)=Instr.fill place (pre++cs++post).toArray rest:=by
 have h:=Lv off cs pre olds post 0 (by omega) (by omega)
 conv=>lhs;rw[Instr.fill]
 rw[hp];simp only[hv,List.size_toArray];rw[bX (by simp;omega)];rw[show cs.toArray.zipIdx=(cs.zipIdx 0).toArray by simp];rw[List.foldl_toArray',]
 ·rw[h]
 all_goals simp
theorem F5{P:aZ}{t e:aY}{i:TypeInfo}{z:aT}{size:Nat}(ht:P.underlying t=aE (.slice e))(hi:P.info? e=aE i)(hz:i.zero=aE z)(hs:i.size=size)(Wz:z.cells.size=size)(h0:0<size)(hm:size≤16777216)(cs:List aT)(hc:cs.length=size)(w:aS):
  (Instr.buildSlice t 1 #[(0,.agg cs.toArray)]).run P w= .ok (aL (aE ⟨w.heap.size,0,J⟩) 1 1) (w.alloc (aI cs.toArray e)):=by
 subst hs;have hl: ∀X:Array aT,X=([]++X.toList++ []).toArray:=fun X=>by simp
 have hf:Instr.fill (fun j=>aE (j*i.size,i.size)) ((Array.range i.size).map (fun x=>z.cells[x % z.cells.size]!)) [(0,.agg cs.toArray)]=aE cs.toArray:=by rw[hl (Array.map _ _),mE (off:=0) (size:=i.size) (cs:=cs) (by simp) D hc (by simp) D];simp[Instr.fill]
 have DP: ¬(16777216<i.size):=by omega
 have hne: ¬(i.size=0):=by omega
 unfold Instr.buildSlice;simp only[eB,dE ht,eD,sizeOf,bF,hi,jU,zeroValue,hz];simp[hi,hz,hne,DP];rw[hf];simp[newRow]
theorem Rb{P:aZ}{w:aS}{ops:Array bA}{rest:List bA}{a:Act}{Q:Exit→Act→aS→Prop}{d:Option Tmp}{t ty:aY}{k:Nat}{ps:Array (Nat × Operand)}{pos:String}{af:Array Edge}
  (h:Stop (wpList P ops Q (⟨d,.buildSlice t k ps,ty,pos,af,J⟩::rest) a w)):wpList P ops Q (⟨d,.buildSlice t k ps,ty,pos,af,J⟩::rest) a w:=h
theorem Gq{P:aZ}{w:aS}{ops:Array bA}{rest:List bA}{a:Act}{Q:Exit→Act→aS→Prop}{d:Option Tmp}{x:Operand}{t ty e:aY}{pos:String}{af:Array Edge}
  {i:TypeInfo} {z:aT} {size bytes:Nat} (ht:P.underlying t=aE (.slice e)) (hi:P.info? e=aE i∧i.zero=aE z∧i.size=size∧i.bytes=bytes) (Wz:z.cells.size=size) (h0:0<size) (hm:size≤16777216) {cs:List aT} (hc:cs.length=size) (hx:a.eval x= .agg cs.toArray)
  (h:wpList P ops Q rest (a.put d (aL (aE ⟨w.heap.size,0,J⟩) 1 1)) (w.alloc (aI cs.toArray e))):
  wpList P ops Q (⟨d,.buildSlice t 1 #[(0,x)],ty,pos,af,J⟩::rest) a w:=by
 refine tZ D fun _ hK=> ?_;have yU:=F5 (P:=P) ht hi.1 hi.2.1 hi.2.2.1 Wz h0 hm cs hc w;unfold Oper.wp bD;simp only[eG,eE,fK,hx,eB,yU,eD,jU];exact hK _ _ h
theorem xC{P:aZ}{t:aY}{fs:Array Field}{zs:List aT}{pl:Array (Nat × Nat)}(hu:P.underlying t=aE (.struct fs))(hz: ∀w,(zeroValue t).run P w= .ok (.agg zs.toArray) w)
  (Am: ∀w,(fs.mapM (fun f=>do pure (f.offset,←sizeOf f.type)):Sem (Array (Nat × Nat))).run P w= .ok pl w) {parts:Array (Nat × aT)} {out:List aT}
  (hf:Instr.fill (pl[·]?) zs.toArray parts.toList=aE out.toArray) (w:aS):(Instr.build t parts).run P w= .ok (.agg out.toArray) w:=by
 unfold Instr.build;simp only[eB,hz,eD,dE hu,Am,Value.cells];rw[hf];rfl
theorem iB(t:aY){P:aZ}{w:aS}{ops:Array bA}{rest:List bA}{a:Act}{Q:Exit→Act→aS→Prop}{d:Option Tmp}{ps:Array (Nat × Operand)}{ty:aY}{pos:String}{af:Array Edge}
  (h:Stop (wpList P ops Q (⟨d,.build t ps,ty,pos,af,J⟩::rest) a w)):wpList P ops Q (⟨d,.build t ps,ty,pos,af,J⟩::rest) a w:=h
theorem fR{P:aZ}{w:aS}{ops:Array bA}{rest:List bA}{a:Act}{Q:Exit→Act→aS→Prop}{d:Option Tmp}{ps:Array (Nat × Operand)}{t ty:aY}{pos:String}{af:Array Edge}{parts:Array (Nat × aT)}{out:List aT}
  (hp:ps.map (fun p=>(p.1,a.eval p.2))=parts) (hb: ∀w,(Instr.build t parts).run P w= .ok (.agg out.toArray) w)
  (h:wpList P ops Q rest (a.put d (.agg out.toArray)) w):wpList P ops Q (⟨d,.build t ps,ty,pos,af,J⟩::rest) a w:=by
 refine tZ D fun _ hK=> ?_;unfold Oper.wp bD;subst hp;have hb2:=hb w;simp only[eB] at hb2 ⊢;rw[hb2];exact hK _ _ h
namespace OrdY
open Go.Proofs.YtfoabhdppkjmbaaGreat.Ord
def wpY(n:Nat)(P:aZ)(o:bA)(a:Act)(w:aS)(K:Act→aS→Prop)(Q:Exit→Act→aS→Prop):Prop:=o.uponIn Fence.wide n P a K Q ((bD a.eval o).run P w)
def wpE(n:Nat)(P:aZ)(ops:Array bA)(G:Cfg)(R:Act→aS→Prop):List bA→Act→aS→Prop
 | [],a,w=>R a w
 |o::r,a,w=>
  if Region.wanted o (bC ops a.tmps)=aF then
   if kindOf P G.F o=0 then∃v,(∀w2,(bD a.eval o).run P w2= .ok (.value v) w2)∧wpE n P ops G R r (a.put o.dst v) w
   else if kindOf P G.F o=1 then∃v,(∀w2,G.S w2→(bD a.eval o).run P w2= .ok (.value v) w2)∧wpE n P ops G R r (a.put o.dst v) w
   else if kindOf P G.F o=3 then∃v,Stays P o v a w∧wpE n P ops G R r (a.put o.dst v) w
   else wpY n P o a w (fun a' w'=>(G.S w'∧(grows G.G G.F o=aF→aV w.heap.size w w'))∧wpE n P ops G R r a' w') QF
  else wpE n P ops G R r (a.put o.dst undef) w
section
variable {n:Nat} {P:Program} {ops:Array Oper} {G:Cfg} {R:Act→World→Prop}
theorem upon_y{o:bA}{a:Act}{K:Act→aS→Prop}{r:Result Next}(h:o.upon P a K QF r):o.uponIn Fence.wide n P a K QF r:=by
 cases r with
 |ok x w'=>
  cases x<;>simp only[Oper.upon,Oper.uponIn] at h ⊢ <;>
   first
    |exact h
    |exact⟨fun hd=>by simp[Fence.wide] at hd,callsIn_wide.2 h⟩
    |exact⟨fun hd=>by simp[Fence.wide] at hd,fun c cs _=>let⟨v,w',r,s⟩:=h c cs;⟨v,w',r,stepsIn_wide.2 s⟩⟩
    |exact h.elim
 |halt x w'=>cases x<;>simp only[Oper.upon,Oper.uponIn] at h ⊢ <;>exact h
theorem upon_imp{o:bA}{a:Act}{K K':Act→aS→Prop}{Q:Exit→Act→aS→Prop}(h: ∀a w,K a w→K' a w)(r:Result Next)(hh:o.uponIn Fence.wide n P a K QF r):o.uponIn Fence.wide n P a K' Q r:=by
 cases r with
 |ok x w'=>
  cases x<;>simp only[Oper.uponIn] at hh ⊢ <;>
   first
    |exact h _ _ hh
    |exact hh.elim
    |exact⟨hh.1,CallsIn.mono hh.2 (fun e Gz he=>by
      cases e with
      |returned v=>exact h _ _ he
      |panicked c=>exact he.elim
      |outgrown=>obtain⟨_,_,he⟩:=he;exact he.elim)⟩
    |exact⟨hh.1,RowsIn.mono hh.2 (fun _ _ he=>h _ _ he)⟩
    |exact⟨hh.1,RoundIn.mono hh.2 (fun e Gz he=>by
      cases e with
      |returned v=>exact h _ _ he
      |panicked c=>exact he.elim
      |outgrown=>obtain⟨_,_,he⟩:=he;exact he.elim)⟩
 |halt x w'=>cases x<;>simp only[Oper.uponIn] at hh ⊢ <;>exact hh.elim
theorem wp_imp{o:bA}{a:Act}{w:aS}{K K':Act→aS→Prop}{Q:Exit→Act→aS→Prop}(h: ∀a w,K a w→K' a w)(hh:wpY n P o a w K QF):wpY n P o a w K' Q:=upon_imp h _ hh
theorem wp_put{oi oj:bA}{v:aT}(CM:oi.apart ops oj=aF)(G0: ∀cs b,oj.op≠ .select cs b){K:Act→aS→Prop}{a:Act}{w:aS}
  (h:wpY n P oj (a.put oi.dst v) w K QF):wpY n P oj a w (fun a' w'=>Fm oj a a'∧K (a'.put oi.dst v) w') QF:=by
 obtain⟨h1,h2,h3⟩:=nO CM;unfold wpY at*;rw[execOp_put oj G0 a oi.dst v h1] at h;generalize(bD a.eval oj).run P w=r at*;have hf: ∀(u:aT),Fm oj a (a.put oj.dst u):=fun u=>⟨a.defers,u,D⟩
 cases r with
 |ok x w'=>
  cases x<;>simp only[Oper.uponIn] at h ⊢
  case value u=>exact⟨hf u,by rw[←eT a v u h2];exact h⟩
  case skip=>exact⟨hf _,by rw[←eT a v undef h2];exact h⟩
  case defer d=>refine⟨⟨_,_,D⟩,?_⟩;rw[←eT _ v undef h2,←Act.put_defers];exact h
  case enter f args=>
   refine⟨h.1,CallsIn.mono h.2 fun e Gz he=> ?_⟩
   cases e with
   |returned u=>exact⟨hf u,by rw[←eT a v u h2];exact he⟩
   |panicked c=>exact he
   |outgrown=>exact he
  case round l f tmps assign body=>
   refine⟨h.1,RoundIn.mono h.2 fun e Gz he=> ?_⟩
   cases e with
   |returned u=>exact⟨hf u,by rw[←eT a v u h2];exact he⟩
   |panicked c=>exact he
   |outgrown=>exact he
  case row row args=>exact⟨h.1,RowsIn.mono h.2 fun u Gz he=>⟨hf u,by rw[←eT a v u h2];exact he⟩⟩
 |halt x w'=>
  cases x<;>simp only[Oper.uponIn] at h ⊢
  case panic u=>exact h
theorem wp_form{o:bA}(hs: ∀cs b,o.op≠ .select cs b){K:Act→aS→Prop}{a:Act}{w:aS}(h:wpY n P o a w K QF):wpY n P o a w (fun a' w'=>Fm o a a'∧K a' w') QF:=by
 unfold wpY at*;generalize(bD a.eval o).run P w=r at*
 cases r with
 |ok x w'=>
  cases x<;>simp only[Oper.uponIn] at h ⊢
  case value u=>exact⟨⟨a.defers,u,D⟩,h⟩
  case skip=>exact⟨⟨a.defers,_,D⟩,h⟩
  case defer d=>exact⟨⟨_,_,D⟩,h⟩
  case enter f args=>
   refine⟨h.1,CallsIn.mono h.2 fun e Gz he=> ?_⟩
   cases e with
   |returned u=>exact⟨⟨a.defers,u,D⟩,he⟩
   |panicked c=>exact he
   |outgrown=>exact he
  case round l f tmps assign body=>
   refine⟨h.1,RoundIn.mono h.2 fun e Gz he=> ?_⟩
   cases e with
   |returned u=>exact⟨⟨a.defers,u,D⟩,he⟩
   |panicked c=>exact he
   |outgrown=>exact he
  case row row args=>exact⟨h.1,RowsIn.mono h.2 fun u Gz he=>⟨⟨a.defers,u,D⟩,he⟩⟩
 |halt x w'=>
  cases x<;>simp only[Oper.uponIn] at h ⊢
  case panic u=>exact h
theorem wp_ex{o:bA}{K:Act→aS→Prop}{a:Act}{w:aS}(h:wpY n P o a w K QF): ∃a' w',K a' w':=by
 unfold wpY at*;generalize(bD a.eval o).run P w=r at*
 cases r with
 |ok x w'=>
  cases x<;>simp only[Oper.uponIn] at h
  case value u=>exact⟨_,_,h⟩
  case skip=>exact⟨_,_,h⟩
  case defer d=>exact⟨_,_,h⟩
  case enter f args=>
   obtain⟨e,Gz,fr,he,_⟩:=h.2.2 [] (room_wide _)
   cases e with
   |returned u=>exact⟨_,_,he⟩
   |panicked c=>exact he.elim
   |outgrown=>obtain⟨_,_,he⟩:=he;exact he.elim
  case row row args=>obtain⟨v,Gz,he,_⟩:=h.2 { fn:=0,tmps:= #[],todo:= [],defers:= [],mode:= .run,kind:= .normal } [] (room_wide _);exact⟨_,_,he⟩
  case round l f tmps assign body=>
   obtain⟨e,Gz,he,_⟩:=h.2.2 { fn:=0,tmps:= #[],todo:= [],defers:= [],mode:= .run,kind:= .normal } [] (room_wide _)
   cases e with
   |returned u=>exact⟨_,_,he⟩
   |panicked c=>exact he.elim
   |outgrown=>obtain⟨_,_,he⟩:=he;exact he.elim
 |halt x w'=>
  cases x<;>simp only[Oper.uponIn] at h
  case panic u=>exact h.elim
theorem wp_putOut{oi oj:bA}{v:aT}(CM:oi.apart ops oj=aF)(G0: ∀cs b,oj.op≠ .select cs b){K:Act→aS→Prop}{a:Act}{w:aS}
  (h:wpY n P oj a w K QF):wpY n P oj (a.put oi.dst v) w (fun a' w'=> ∃a1,Fm oj a a1∧a'=a1.put oi.dst v∧K a1 w') QF:=by
 obtain⟨h1,h2,h3⟩:=nO CM;unfold wpY at*;rw[execOp_put oj G0 a oi.dst v h1];generalize(bD a.eval oj).run P w=r at*
 cases r with
 |ok x w'=>
  cases x<;>simp only[Oper.uponIn] at h ⊢
  case value u=>exact⟨_,⟨a.defers,u,D⟩,eT a v u h2,h⟩
  case skip=>exact⟨_,⟨a.defers,_,D⟩,eT a v undef h2,h⟩
  case defer d=>refine⟨_,⟨d::a.defers,undef,D⟩,?_,h⟩;rw[Act.put_defers,eT _ v undef h2]
  case enter f args=>
   refine⟨h.1,CallsIn.mono h.2 fun e Gz he=> ?_⟩
   cases e with
   |returned u=>exact⟨_,⟨a.defers,u,D⟩,eT a v u h2,he⟩
   |panicked c=>exact he
   |outgrown=>exact he
  case round l f tmps assign body=>
   refine⟨h.1,RoundIn.mono h.2 fun e Gz he=> ?_⟩
   cases e with
   |returned u=>exact⟨_,⟨a.defers,u,D⟩,eT a v u h2,he⟩
   |panicked c=>exact he
   |outgrown=>exact he
  case row row args=>exact⟨h.1,RowsIn.mono h.2 fun u Gz he=>⟨_,⟨a.defers,u,D⟩,eT a v u h2,he⟩⟩
 |halt x w'=>
  cases x<;>simp only[Oper.uponIn] at h ⊢
  case panic u=>exact h
theorem quiet_iff{o:bA}{r:List bA}{a:Act}{w:aS}(hw:Region.wanted o (bC ops a.tmps)=aF)(hk:kindOf P G.F o≠2):
  wpE n P ops G R (o::r) a w↔∃v,Ev P G o v a w∧wpE n P ops G R r (a.put o.dst v) w:=by
 rw[wpE,if_pos hw];rcases kind_lt P G.F o with h|h|h|h
 ·rw[if_pos h];exact⟨fun⟨v,h1,h2⟩=>⟨v,.inl ⟨h,h1⟩,h2⟩,fun⟨v,h1,h2⟩=>⟨v,by rcases h1 with⟨_,h1⟩|⟨h',_⟩|⟨h',_⟩<;>first|exact h1|omega,h2⟩⟩
 ·rw[bX (by omega),if_pos h];exact⟨fun⟨v,h1,h2⟩=>⟨v,.inr (.inl ⟨h,h1⟩),h2⟩,fun⟨v,h1,h2⟩=>⟨v,by rcases h1 with⟨h',_⟩|⟨_,h1⟩|⟨h',_⟩<;>first|exact h1|omega,h2⟩⟩
 ·exact absurd h hk
 ·rw[bX (by omega),bX (by omega),if_pos h];exact⟨fun⟨v,h1,h2⟩=>⟨v,.inr (.inr ⟨h,h1⟩),h2⟩,fun⟨v,h1,h2⟩=>⟨v,by rcases h1 with⟨h',_⟩|⟨h',_⟩|⟨_,h1⟩<;>first|exact h1|omega,h2⟩⟩
theorem loud_iff{o:bA}{r:List bA}{a:Act}{w:aS}(hw:Region.wanted o (bC ops a.tmps)=aF)(hk:kindOf P G.F o=2):
  wpE n P ops G R (o::r) a w↔wpY n P o a w (fun a' w'=>(G.S w'∧(grows G.G G.F o=aF→aV w.heap.size w w'))∧wpE n P ops G R r a' w') QF:=by
 rw[wpE,if_pos hw,bX (by omega),bX (by omega),bX (by omega)]
theorem skip_iff{o:bA}{r:List bA}{a:Act}{w:aS}(hw: ¬Region.wanted o (bC ops a.tmps)=aF):
  wpE n P ops G R (o::r) a w↔wpE n P ops G R r (a.put o.dst undef) w:=by rw[wpE,bX hw]
theorem wpE_mono{l l':List bA}(h: ∀a w,G.S w→wpE n P ops G R l a w→wpE n P ops G R l' a w)(o:bA)(a:Act)(w:aS)(hS:G.S w)(hh:wpE n P ops G R (o::l) a w):wpE n P ops G R (o::l') a w:=by
 by_cases hw:Region.wanted o (bC ops a.tmps)=aF
 ·by_cases hk:kindOf P G.F o=2
  ·rw[loud_iff hw hk] at hh ⊢;exact wp_imp (fun a' w' hx=>⟨hx.1,h _ _ hx.1.1 hx.2⟩) hh
  ·rw[quiet_iff hw hk] at hh ⊢;obtain⟨v,h1,h2⟩:=hh;exact⟨v,h1,h _ _ hS h2⟩
 ·rw[skip_iff hw] at hh ⊢;exact h _ _ hS hh
theorem swap_{oj oi:bA}{r:List bA}{a:Act}{w:aS}(hc:comm P ops G.G G.F oj oi=aF)(G0: ∀cs b,oj.op≠ .select cs b)(CN: ∀cs b,oi.op≠ .select cs b)(hS:G.S w)
  (h:wpE n P ops G R (oj::oi::r) a w):wpE n P ops G R (oi::oj::r) a w:=by
 simp only[comm,dP] at hc;obtain⟨⟨CO,CP⟩,hk⟩:=hc;simp only[commK,mK,dP,mI] at hk;obtain⟨_,hne,_⟩:=nO CP;have ji:=fun v=>same_put CO CN a v;have ij:=fun v=>same_put CP G0 a v;by_cases F7:Region.wanted oj (bC ops a.tmps)=aF
 case neg=>
  rw[skip_iff F7] at h;by_cases Bq:Region.wanted oi (bC ops a.tmps)=aF
  case neg=>rw[skip_iff (by rw[(ji undef).2];exact Bq)] at h;rw[skip_iff Bq,skip_iff (by rw[(ij undef).2];exact F7),eT a undef undef hne];exact h
  case pos=>
   by_cases zC:kindOf P G.F oi=2
   ·rw[loud_iff (by rw[(ji undef).2];exact Bq) zC] at h;rw[loud_iff Bq zC];refine wp_imp ?_ (wp_put CO CN h);rintro a' w' ⟨hf,h1,h2⟩;refine⟨h1,?_⟩;rw[skip_iff (by rw[(same_fm CP G0 hf).2];exact F7)];exact h2
   ·rw[quiet_iff (by rw[(ji undef).2];exact Bq) zC] at h;obtain⟨v,h1,h2⟩:=h;rw[quiet_iff Bq zC];refine⟨v,h1.same (ji undef).1.symm,?_⟩;rw[skip_iff (by rw[(ij v).2];exact F7),eT a v undef hne];exact h2
 case pos=>
  by_cases Bq:Region.wanted oi (bC ops a.tmps)=aF
  case neg=>
   rw[skip_iff Bq];by_cases F8:kindOf P G.F oj=2
   ·rw[loud_iff F7 F8] at h;rw[loud_iff (by rw[(ij undef).2];exact F7) F8];refine wp_imp ?_ (wp_putOut CP G0 h);rintro a' w' ⟨a1,hf,rfl,h1,h2⟩;refine⟨h1,?_⟩;rw[skip_iff (by rw[(same_fm CO CN hf).2];exact Bq)] at h2;exact h2
   ·rw[quiet_iff F7 F8] at h;obtain⟨v,h1,h2⟩:=h;rw[quiet_iff (by rw[(ij undef).2];exact F7) F8];refine⟨v,h1.same (ij undef).1,?_⟩;rw[skip_iff (by rw[(ji v).2];exact Bq)] at h2;rw[eT a undef v hne];exact h2
  case pos=>
   by_cases F8:kindOf P G.F oj=2
   ·
    rw[loud_iff F7 F8] at h;have F9:kindOf P G.F oi≠3:=by rcases hk with(((h'|h')|h')|h')|h'<;>omega
    have zC:kindOf P G.F oi≠2:=by rcases hk with(((h'|h')|h')|h')|h'<;>omega
    obtain⟨a1,w1,wo,⟨hS1,_⟩,h1⟩:=wp_ex (wp_form G0 h);have hs1:=same_fm CO CN wo;rw[quiet_iff (by rw[hs1.2];exact Bq) zC] at h1;obtain⟨u,h3,_⟩:=h1;have h3':Ev P G oi u a w:=(h3.same hs1.1.symm).any F9;rw[quiet_iff Bq zC];refine⟨u,h3',?_⟩;rw[loud_iff (by rw[(ij u).2];exact F7) F8];refine wp_imp ?_ (wp_putOut CP G0 h);rintro a' w' ⟨a2,Tc,rfl,h4,h5⟩;refine⟨h4,?_⟩;have hs2:=same_fm CO CN Tc;rw[quiet_iff (by rw[hs2.2];exact Bq) zC] at h5;obtain⟨u',h6,h7⟩:=h5;have e:u'=u:=(h3'.any F9).det (h6.same hs2.1.symm) h4.1;rw[e] at h7;exact h7
   ·rw[quiet_iff F7 F8] at h;obtain⟨v,hv,h2⟩:=h;by_cases zC:kindOf P G.F oi=2
    ·rw[loud_iff (by rw[(ji v).2];exact Bq) zC] at h2;rw[loud_iff Bq zC];refine wp_imp ?_ (wp_put CO CN h2);rintro a' w' ⟨hf,h3,h4⟩;refine⟨h3,?_⟩;have hs':=same_fm CP G0 hf;rw[quiet_iff (by rw[hs'.2];exact F7) F8];refine⟨v,(hv.same hs'.1).later fun h3k=>h3.2 ?_,h4⟩;rcases hk with(((h'|h')|h')|h')|h'
     ·omega
     ·omega
     ·omega
     ·omega
     ·rcases h'.2 with pc|pc
      ·omega
      ·exact pc
    ·rw[quiet_iff (by rw[(ji v).2];exact Bq) zC] at h2;obtain⟨u,h3,h4⟩:=h2;rw[quiet_iff Bq zC];refine⟨u,h3.same (ji v).1.symm,?_⟩;rw[quiet_iff (by rw[(ij u).2];exact F7) F8];exact⟨v,hv.same (ij u).1,by rw[eT a u v hne];exact h4⟩
theorem head_{i:Nat}{o:bA}{r:List bA}{a:Act}{w:aS}{Q:Exit→Act→aS→Prop}(hi:ops[i]?=aE o)(hS:G.S w)(h:wpE n P ops G R (o::r) a w):wpOpIn Fence.wide n P ops Q i (fun a' w'=>G.S w'∧wpE n P ops G R r a' w') a w:=by
 unfold wpOpIn;simp only[hi];split
 ·rename_i hw;refine⟨fun _ _=>trivial,?_⟩;show wpY n P o a w _ Q;by_cases hk:kindOf P G.F o=2
  ·rw[loud_iff hw hk] at h;exact wp_imp (fun _ _ hx=>⟨hx.1.1,hx.2⟩) h
  ·rw[quiet_iff hw hk] at h;obtain⟨v,h1,h2⟩:=h;rw[wpY,h1.run hS];exact⟨hS,h2⟩
 ·rename_i hw;rw[skip_iff hw] at h;exact⟨fun _ _=>trivial,hS,h⟩
theorem move_(hN:Region.noSelect ops=aF){i:Nat}{s:List Nat} : ∀(p:List Nat),(∀j∈p,commI P ops G.G G.F j i=aF)→∀a w,G.S w→wpE n P ops G R (lst ops (p++i::s)) a w→wpE n P ops G R (lst ops (i::(p++s))) a w
 | [],_,_,_,_,h=>h
 |j::p,hp,a,w,hS,h=>by obtain⟨oj,oi,h1,h2,hc⟩:=commI_spec (hp j List.mem_cons_self);have ih:=move_ hN (s:=s) p (fun k hk=>hp k (List.mem_cons_of_mem _ hk));rw[List.cons_append,lst_cons h1] at h;have h':=wpE_mono ih oj a w hS h;rw[lst_cons h2] at h';rw[lst_cons h2,List.cons_append,lst_cons h1];exact swap_ hc (rE hN j oj · · h1) (rE hN i oi · · h2) hS h'
theorem any_of(hN:Region.noSelect ops=aF){M:List Nat}(hM:okMasks ops M=aF){Q:Exit→Act→aS→Prop} : ∀(N:Nat) (L:List Nat) (listed:Array Bool) (a:Act) (w:aS),L.length=N→listed.size=ops.size→(∀i,i∈L↔i<ops.size∧listed.getD i aF=aD)→
  L.Pairwise (fun j i=>i≠j∧((M.getD i 0).testBit j=aF∨commI P ops G.G G.F j i=aF))→Closed ops listed→G.S w→wpE n P ops G (Q .normal) (lst ops L) a w→wpAnyIn Fence.wide n P .any ops Q N listed a w:=by
 intro N
 induction N with
 |zero=>
  intro L listed a w hn iJ hL hp hc hS h;obtain rfl:L= []:=cU hn;refine⟨?_,h⟩
  cases hr:Region.ready .any ops listed with
  |nil=>rfl
  |cons x xs=>
   have hx:=mem_ready.1 (by rw[hr];exact List.mem_cons_self:x∈Region.ready .any ops listed);obtain⟨h0,o,ho,_⟩:=hx;have:=(hL x).2 ⟨(Array.getElem?_eq_some_iff.1 ho).1,h0⟩;cases this
 |succ N ih=>
  intro L listed a w hn iJ hL hp hc hS h;refine⟨fun h0=> ?_,fun i hi=> ?_⟩
  ·
   exfalso
   have J3: ∀m,∀i,i<m→i<ops.size→listed.getD i aF=aD→False:=by
    intro m
    induction m with
    |zero=>intro i hi;omega
    |succ m pd=>
     intro i hi fF Yz;by_cases hall: ∀o,ops[i]?=aE o→∀e∈o.after,Region.binds .any e=aF→listed.getD e.on aD=aF
     ·have:i∈Region.ready .any ops listed:=mem_ready.2 ⟨Yz,ops[i],dL fF,hall _ (dL fF)⟩;rw[h0] at this;cases this
     ·have h1:=List.all_eq_true.1 hM i (List.mem_range.2 fF);rw[dL fF] at h1;simp only[dP,mI] at h1;apply hall;intro o ho e he hb;rw[dL fF] at ho;injection ho with ho;subst ho;have zx:e.on<i:=by have:=List.all_eq_true.1 h1.2 e (by simpa using he);simpa [hb] using this
      cases zB:listed.getD e.on aF with
      |false=>exact(pd e.on (by omega) (by omega) zB).elim
      |true=>
       have:e.on<listed.size:=by omega
       simpa [this] using zB
   cases L with
   |nil=>simp at hn
   |cons x xs=>
    obtain⟨hx1,hx2⟩:=(hL x).1 List.mem_cons_self;exact J3 (x+1) x (by omega) hx1 hx2
  ·obtain⟨h0,o,ho,hall⟩:=mem_ready.1 hi;have fF:i<ops.size:=(Array.getElem?_eq_some_iff.1 ho).1;obtain⟨p,s,rfl⟩:=pO ((hL i).2 ⟨fF,h0⟩);have hpa:=List.pairwise_append.1 hp
   have CQ:(p++s).Pairwise (fun j i=>i≠j∧((M.getD i 0).testBit j=aF∨commI P ops G.G G.F j i=aF)):=
    hp.sublist ((qO p).append (mQ i s))
   have db: ∀j∈p,commI P ops G.G G.F j i=aF:=fun j hj=>by
    rcases(hpa.2.2 j hj i List.mem_cons_self).2 with h1|h1
    ·have:=dep_listed hM hc i i (bM _) (fun o' Tw=>by rw[ho] at Tw;injection Tw with Tw;subst Tw;exact hall) fF j h1;have Yz:=((hL j).1 (nX _ hj)).2;rw[getD_tf this] at Yz;cases Yz
    ·exact h1
   have h':=move_ hN p db a w hS h;rw[lst_cons ho] at h';refine wpOpIn_mono (fun a' w' hx=>ih (p++s) (listed.setIfInBounds i aF) a' w' ?_ (by simpa using iJ) ?_ CQ ?_ hx.1 hx.2) (head_ ho hS h')
   ·simp at hn ⊢;omega
   ·intro k;by_cases M6:i=k
    ·subst M6;have W5:i ∉ p:=fun hm=>(hpa.2.2 i hm i List.mem_cons_self).1 D;have Ga:i ∉ s:=fun hm=>((List.pairwise_cons.1 hpa.2.1).1 i hm).1 D;have je:i<listed.size:=by omega
     simp[W5,Ga,je]
    ·rw[vW aF M6,←hL k];simp[oL M6]
   ·intro k ok hk hl e he hb;by_cases M6:i=k
    ·subst M6;rw[ho] at hk;injection hk with hk;subst hk;exact sF (hall e he hb)
    ·rw[vW aF M6] at hl;exact sF (hc k ok hk hl e he hb)
theorem any_at{l l0:List bA}{a:Act}{w:aS}{Q:Exit→Act→aS→Prop}(L:List Nat)(S:aS→Prop)(G:Bool)(F:List Tmp)(hc:chk P l.toArray G F L=aF)(hl:lst l.toArray L=l0)(hS:S w)
  (h:wpE n P l.toArray ⟨S,G,F⟩ (Q .normal) l0 a w):wpAnyIn Fence.wide n P .any l.toArray Q l.toArray.size (Array.replicate l.toArray.size aD) a w:=by
 subst hl;simp only[chk,dP,mI] at hc;obtain⟨⟨⟨⟨⟨h1,h2⟩,h3⟩,h4⟩,h5⟩,h6⟩:=hc;rw[←h6];refine any_of (G:=⟨S,G,F⟩) h1 h2 _ L _ a _ D (by rw[Array.size_replicate];exact h6) (fun i=> ?_) (pairB_spec h3) (fun k o hk hl=> ?_) hS h
 ·constructor
  ·intro hi;have:=List.all_eq_true.1 h5 i hi;simp at this;simp[h6,this]
  ·rintro⟨hi,_⟩;have:=List.all_eq_true.1 h4 i (List.mem_range.2 hi);simpa using this
 ·obtain⟨Td,_⟩:=Array.getElem?_eq_some_iff.1 hk;rw[←h6] at Td;simp[Td] at hl
theorem region_at{id:Nat}{l l0:List bA}{a:Act}{w:aS}{Q:Exit→Act→aS→Prop}(L:List Nat)(S:aS→Prop)(G:Bool)(F:List Tmp)(hm:P.follows .mixedOrders=aF)(hc:chk P l.toArray G F L=aF)(hl:lst l.toArray L=l0)(hS:S w.drew)
  (h:wpE n P l.toArray ⟨S,G,F⟩ (Q .normal) l0 a w.drew):(Code.region id l.toArray aF).wpIn Fence.wide n P Q a w:=
 wpIn_region_any hm (any_at L S G F hc hl hS h)
theorem region_{id:Nat}{l:List bA}{a:Act}{w:aS}{Q:Exit→Act→aS→Prop}(S:aS→Prop)(G:Bool)(F:List Tmp)(hm:P.follows .mixedOrders=aF)(hc:chk P l.toArray G F (List.range l.length)=aF)(hS:S w.drew)
  (h:wpE n P l.toArray ⟨S,G,F⟩ (Q .normal) l a w.drew):(Code.region id l.toArray aF).wpIn Fence.wide n P Q a w:=region_at _ S G F hm hc (lst_all l) hS h
variable {r:List Oper} {o:Oper} {a:Act} {w:World}
theorem e_nil(h:R a w):wpE n P ops G R [] a w:=h
theorem e_u(hw:Region.wanted o (bC ops a.tmps)=aD)(h:wpE n P ops G R r (a.put o.dst undef) w):wpE n P ops G R (o::r) a w:=by
 rw[skip_iff (by rw[hw];simp)];exact h
theorem e_p{v:aT}(hk:isX P o=aD)(hw:Region.wanted o (bC ops a.tmps)=aF)(hy: ∀w2,(bD a.eval o).run P w2= .ok (.value v) w2)(h:wpE n P ops G R r (a.put o.dst v) w):wpE n P ops G R (o::r) a w:=by
 have yM:=kind_of_not (P:=P) (F:=G.F) hk;rw[quiet_iff hw yM];refine⟨v,?_,h⟩;rcases kind_lt P G.F o with h'|h'|h'|h'
 ·exact .inl ⟨h',hy⟩
 ·exact .inr (.inl ⟨h',fun w2 _=>hy w2⟩)
 ·exact absurd h' yM
 ·exact .inr (.inr ⟨h',fun w2 _=>hy w2⟩)
theorem e_r{v:aT}(hk:kindOf P G.F o=1∨kindOf P G.F o=3)(hw:Region.wanted o (bC ops a.tmps)=aF)(hy:(kindOf P G.F o=3∧Stays P o v a w)∨(∀w2,G.S w2→(bD a.eval o).run P w2= .ok (.value v) w2)∧(kindOf P G.F o=3→Stays P o v a w))(h:wpE n P ops G R r (a.put o.dst v) w):wpE n P ops G R (o::r) a w:=by
 rw[quiet_iff hw (by omega)];refine⟨v,?_,h⟩;rcases hk with hk|hk
 ·rcases hy with⟨h',_⟩|⟨h1,_⟩
  ·omega
  ·exact .inr (.inl ⟨hk,h1⟩)
 ·rcases hy with⟨_,h1⟩|⟨_,h1⟩
  ·exact .inr (.inr ⟨hk,h1⟩)
  ·exact .inr (.inr ⟨hk,h1 hk⟩)
def Seg(n:Nat)(P:aZ)(ops:Array bA)(G:Cfg)(R:Act→aS→Prop)(o:bA)(r:List bA)(w:aS)(e:Exit)(a':Act)(w':aS):Prop:=e= .normal∧(G.S w'∧(grows G.G G.F o=aF→aV w.heap.size w w'))∧wpE n P ops G R r a' w'
theorem Seg.go{a':Act}{w':aS}(hS:G.S w')(hb:grows G.G G.F o=aF→aV w.heap.size w w')(h:wpE n P ops G R r a' w'):Seg n P ops G R o r w .normal a' w':=⟨D,⟨hS,hb⟩,h⟩
theorem e_x(hk:isX P o=aF)(hw:Region.wanted o (bC ops a.tmps)=aF)(h:wpList P ops (Seg n P ops G R o r w) [o] a w):wpE n P ops G R (o::r) a w:=by
 rw[loud_iff hw (kind_of_x hk)];unfold wpList at h;rw[if_pos hw] at h;rcases h with h|⟨_,_,_,h⟩
 ·have hq: ∀(rs:Result Next),o.upon P a (wpList P ops (Seg n P ops G R o r w) []) (Seg n P ops G R o r w) rs→o.upon P a (fun a' w'=>(G.S w'∧(grows G.G G.F o=aF→aV w.heap.size w w'))∧wpE n P ops G R r a' w') QF rs:=by
   intro rs hh
   cases rs with
   |ok x w'=>
    cases x<;>simp only[Oper.upon] at hh ⊢
    case value u=>exact hh.2
    case skip=>exact hh.2
    case defer d=>exact hh.2
    case enter f args=>exact xX hh (fun e Gz he=>by
      cases e with
      |returned v=>exact he.2
      |panicked c=>exact Exit.noConfusion he.1
      |outgrown=>obtain⟨_,_,he⟩:=he;exact Exit.noConfusion he.1)
    case row row args=>exact Rows.mono hh (fun _ _ he=>he.2)
   |halt x w'=>
    cases x<;>simp only[Oper.upon] at hh ⊢
    case panic u=>exact Exit.noConfusion hh.1
  exact upon_y (hq _ h)
 ·exact Exit.noConfusion h.1
theorem run_load1{x:Operand}{t:aY}{d:Option Tmp}{ty:aY}{pos:String}{af:Array Edge}{g:Option (Nat × Bool)}{ad:aW}{v:aT}{ds:TypeDesc}
  (ht:P.underlying t=aE ds) (Ga:(match ds with| .struct _=>aD| .array _ _=>aD|_=>aF)=aF) (hx:a.eval x=aK (aE ad)) {w2:aS} (Tx:w2.cell? ad=aE v):
  (bD a.eval ⟨d,.load t x,ty,pos,af,g⟩).run P w2= .ok (.value v) w2:=by
 have ha:(isAgg t).run P w2= .ok aD w2:=by unfold isAgg;rw[run_bind_of' (dE ht w2)];cases ds<;>simp at Ga<;>rfl
 unfold bD;simp only[hx];have hl:(Instr.loadAt t (aK (aE ad))).run P w2= .ok v w2:=by unfold Instr.loadAt loadVar;simp only[Instr.sureAddr,eB,jU,eD,ha];simp[load,Sem.run,Tx]
 simp only[eB,hl,eD,jU]
theorem e_loadS{d:Option Tmp}{x:Operand}{t ty:aY}{pos:String}{af:Array Edge}{g:Option (Nat × Bool)}{ad:aW}{v:aT}{ds:TypeDesc}
  (ht:P.underlying t=aE ds) (Ga:(match ds with| .struct _=>aD| .array _ _=>aD|_=>aF)=aF) (hc: ∀w2,G.S w2→w2.cell? ad=aE v) (hS:G.S w) (hx:a.eval x=aK (aE ad))
  (hw:Region.wanted ⟨d,.load t x,ty,pos,af,g⟩ (bC ops a.tmps)=aF) (hk:wpE n P ops G R r (a.put d v) w):wpE n P ops G R (⟨d,.load t x,ty,pos,af,g⟩::r) a w:=
 e_r kind_load hw (.inr ⟨fun w2 hS2=>run_load1 ht Ga hx (hc w2 hS2),fun _ w2 hb=>run_load1 ht Ga hx ((hb.cell (World.block_lt_of_cell? w ad (hc w hS))).trans (hc w hS))⟩) hk
theorem e_load{d:Tmp}{x:Operand}{t ty:aY}{pos:String}{af:Array Edge}{g:Option (Nat × Bool)}{ad:aW}{v:aT}{ds:TypeDesc}
  (ht:P.underlying t=aE ds) (Ga:(match ds with| .struct _=>aD| .array _ _=>aD|_=>aF)=aF) (hc:w.cell? ad=aE v) (hx:a.eval x=aK (aE ad))
  (hF:G.F.contains d=aF) (hw:Region.wanted ⟨aE d,.load t x,ty,pos,af,g⟩ (bC ops a.tmps)=aF) (hk:wpE n P ops G R r (a.put (aE d) v) w):wpE n P ops G R (⟨aE d,.load t x,ty,pos,af,g⟩::r) a w:=
 e_r kind_load hw (.inl ⟨by simp only[kindOf,hF,if_true],fun w2 hb=>run_load1 ht Ga hx ((hb.cell (World.block_lt_of_cell? w ad hc)).trans hc)⟩) hk
theorem run_loadR{x:Operand}{t:aY}{d:Option Tmp}{ty:aY}{pos:String}{af:Array Edge}{g:Option (Nat × Bool)}{b o:Nat}{cs:List aT}{ds:TypeDesc}
  (hu:P.underlying t=aE ds) (hd:ds.isRow=aF) (hi:(P.info? t).map (·.size)=aE cs.length) (hx:a.eval x=aK (aE ⟨b,o,J⟩)) {w2:aS} (hc:w2.rangeAt b o cs):
  (bD a.eval ⟨d,.load t x,ty,pos,af,g⟩).run P w2= .ok (.value (.agg cs.toArray)) w2:=by
 unfold bD;simp only[hx,eB,run_loadAt_mid w2 b o t cs ds hc hu hd hi,eD,jU]
theorem e_rowS{d:Option Tmp}{x:Operand}{t ty:aY}{pos:String}{af:Array Edge}{g:Option (Nat × Bool)}{b o:Nat}{cs:List aT}{ds:TypeDesc}
  (hu:P.underlying t=aE ds) (hd:ds.isRow=aF) (hi:(P.info? t).map (·.size)=aE cs.length) (hx:a.eval x=aK (aE ⟨b,o,J⟩)) (hne:cs≠ []) (hc: ∀w2,G.S w2→w2.rangeAt b o cs) (hS:G.S w)
  (hw:Region.wanted ⟨d,.load t x,ty,pos,af,g⟩ (bC ops a.tmps)=aF) (hk:wpE n P ops G R r (a.put d (.agg cs.toArray)) w):wpE n P ops G R (⟨d,.load t x,ty,pos,af,g⟩::r) a w:=
 e_r kind_load hw (.inr ⟨fun w2 hS2=>run_loadR hu hd hi hx (hc w2 hS2),fun _ w2 hb=>run_loadR hu hd hi hx (fun j v hv=>(hb.cell (p:=⟨b,o+j,J⟩) (by
  have:=World.block_lt_of_cell? w _ (hc w hS j v hv);exact this)).trans (hc w hS j v hv))⟩) hk
theorem e_row{d:Tmp}{x:Operand}{t ty:aY}{pos:String}{af:Array Edge}{g:Option (Nat × Bool)}{b o:Nat}{cs:List aT}{ds:TypeDesc}
  (hu:P.underlying t=aE ds) (hd:ds.isRow=aF) (hi:(P.info? t).map (·.size)=aE cs.length) (hx:a.eval x=aK (aE ⟨b,o,J⟩)) (hc:w.rangeAt b o cs)
  (hF:G.F.contains d=aF) (hw:Region.wanted ⟨aE d,.load t x,ty,pos,af,g⟩ (bC ops a.tmps)=aF) (hk:wpE n P ops G R r (a.put (aE d) (.agg cs.toArray)) w):wpE n P ops G R (⟨aE d,.load t x,ty,pos,af,g⟩::r) a w:=
 e_r kind_load hw (.inl ⟨by simp only[kindOf,hF,if_true],fun w2 hb=>run_loadR hu hd hi hx (fun j v hv=>(hb.cell (p:=⟨b,o+j,J⟩) (by
  have:=World.block_lt_of_cell? w _ (hc j v hv);exact this)).trans (hc j v hv))⟩) hk
theorem ops_of(hN:Region.noSelect ops=aF){Q:Exit→Act→aS→Prop} : ∀(s L:List Nat) (a:Act) (w:aS),(∀i,i∈s↔i∈L)→s.Pairwise (· ≠ ·)→L.Pairwise (fun j i=>j≠i∧(Ahead s i j→commI P ops G.G G.F j i=aF))→(∀i∈s,i<ops.size)→G.S w→
  wpE n P ops G (Q .normal) (lst ops L) a w→wpOpsIn Fence.wide n P ops Q s a w
 | [],L,a,w,hm,hs,hp,iJ,hS,h=>by
  obtain rfl:L= []:=by
   cases L with
   |nil=>rfl
   |cons x xs=>exact absurd ((hm x).2 List.mem_cons_self) (by simp)
  exact h
 |x::s,L,a,w,hm,hs,hp,iJ,hS,h=>by
  obtain⟨p,q,rfl⟩:=pO ((hm x).1 List.mem_cons_self);have hpa:=List.pairwise_append.1 hp;have W5:x ∉ p:=fun hm=>(hpa.2.2 x hm x List.mem_cons_self).1 D;have jj:x ∉ q:=fun hm=>((List.pairwise_cons.1 hpa.2.1).1 x hm).1 D;have EG: ∀y∈s,x≠y:=(List.pairwise_cons.1 hs).1
  have db: ∀j∈p,commI P ops G.G G.F j x=aF:=fun j hj=>(hpa.2.2 j hj x List.mem_cons_self).2 (.inl ⟨D,by
   have:=(hm j).2 (nX _ hj);rcases List.mem_cons.1 this with rfl|h
   ·exact absurd hj W5
   ·exact h⟩)
  have fF:x<ops.size:=iJ x List.mem_cons_self;have ho:ops[x]?=aE ops[x]:=dL fF;have h':=move_ hN p db a w hS h;rw[lst_cons ho] at h';rw[wpOpsIn_cons];refine wpOpIn_mono (fun a' w' hx=>ops_of hN s (p++q) a' w' (fun i=> ?_) (List.pairwise_cons.1 hs).2 ?_ (fun i hi=>iJ i (List.mem_cons_of_mem _ hi)) hx.1 hx.2) (head_ ho hS h')
  ·constructor
   ·intro hi;have:=(hm i).1 (List.mem_cons_of_mem _ hi);have hne:=EG i hi;simp only[mJ,fL] at this ⊢;rcases this with h|h|h
    ·exact .inl h
    ·exact absurd h.symm hne
    ·exact .inr h
   ·intro hi
    have h1:i∈x::s:=(hm i).2 (by
     simp only[mJ,fL] at hi ⊢;rcases hi with h|h
     ·exact .inl h
     ·exact .inr (.inr h))
    rcases List.mem_cons.1 h1 with rfl|h2
    ·rcases List.mem_append.1 hi with h|h
     ·exact absurd h W5
     ·exact absurd h jj
    ·exact h2
  ·exact(hp.sublist ((qO p).append (mQ x q))).imp fun h=>⟨h.1,fun ha=>h.2 (.inr ha)⟩
theorem K{v:aT}{Z:Prop}(h:Z)(h1:isX P o=aD:=by exact D)(h2:Region.wanted o (bC ops a.tmps)=aF:=by kernel_rfl)(h3: ∀w2,(bD a.eval o).run P w2= .ok (.value v) w2:=by(intro w2;go_simp;try with_reducible rfl))
  (h4:wpE n P ops G R r (a.put o.dst v) w=Z:=by((try simp only[Act.put,cE,cW,cX]);exact D)):wpE n P ops G R (o::r) a w:=e_p h1 h2 h3 (h4▸h)
theorem KR{v:aT}{Z:Prop}(h:Z)(h1:isX P o=aD:=by exact D)(h2:Region.wanted o (bC ops a.tmps)=aF:=by exact D)(h3: ∀w2,(bD a.eval o).run P w2= .ok (.value v) w2:=by(intro w2;go_simp;try with_reducible rfl))
  (h4:wpE n P ops G R r (a.put o.dst v) w=Z:=by((try simp only[Act.put,cE,cW,cX]);exact D)):wpE n P ops G R (o::r) a w:=e_p h1 h2 h3 (h4▸h)
theorem U{Z:Prop}(h:Z)(h2:Region.wanted o (bC ops a.tmps)=aD:=by kernel_rfl)
  (h4:wpE n P ops G R r (a.put o.dst undef) w=Z:=by((try simp only[Act.put,cE,cW,cX]);exact D)):wpE n P ops G R (o::r) a w:=e_u h2 (h4▸h)
theorem UR{Z:Prop}(h:Z)(h2:Region.wanted o (bC ops a.tmps)=aD:=by exact D)
  (h4:wpE n P ops G R r (a.put o.dst undef) w=Z:=by((try simp only[Act.put,cE,cW,cX]);exact D)):wpE n P ops G R (o::r) a w:=e_u h2 (h4▸h)
theorem X(h:wpList P ops (Seg n P ops G R o r w) [o] a w)(h1:isX P o=aF:=by exact D)(h2:Region.wanted o (bC ops a.tmps)=aF:=by kernel_rfl):wpE n P ops G R (o::r) a w:=e_x h1 h2 h
theorem XR(h:wpList P ops (Seg n P ops G R o r w) [o] a w)(h1:isX P o=aF:=by exact D)(h2:Region.wanted o (bC ops a.tmps)=aF:=by exact D):wpE n P ops G R (o::r) a w:=e_x h1 h2 h
end
end OrdY
abbrev wP:=@OrdY.e_loadS
end
section
open Go.RowKit
def mf{α:Type}(P:aZ)(n:Nat)(g:Nat)(lb:Array aT)(E:α→Array aT→aS→aS→Prop)(K U:Nat→Prop)(xs:List α)(W0:aS→Prop):Prop:=
 ∀(l:Nat) (aB Jx:List α→aS→Prop) (W:aS),W0 W→(∀pre A B,aB pre A→Aw U A B→aB pre B)→(∀pre A B,Jx pre A→Aw U A B→Jx pre B)→
  (∀pre x vs Wp W1,aB pre Wp→Aw U Wp W1→(pre++ [x])<+:xs→E x vs Wp W1→YieldAt Fence.wide (n-1) P l vs W1 fun e W'=>
   (e=aJ (aG aF)∧aB (pre++ [x]) W'∧Keeps (fun k=>K k∨Wp.heap.size≤k∧k<W1.heap.size) W1 W')∨(e=aJ (aG aD)∧Jx (pre++ [x]) W'))→
  aB [] W→
  CallsIn Fence.wide n P g (#[.func (.yield l) #[] #[]]++lb) W fun e W'=>(∃v,e=aJ v)∧(aB xs W'∨∃pre,pre<+:xs∧Jx pre W')
theorem Ew{P:aZ}{n:Nat}{α:Type}{g:Operand}{ps:Array Tmp}{assign body:Code}{Q:Exit→Act→aS→Prop}{a:Act}{w:aS}
  {gf:Nat} {lb:Array aT} (hg:a.eval g= .func (.func gf) #[] lb) (eg: ∀args w,(callFunc gf args).run P w= .ok (.enter gf args) w)
  {E:α→Array aT→aS→aS→Prop} {K U:Nat→Prop} {xs:List α} {W0:aS→Prop} (dd:mf P (n-1) gf lb E K U xs W0) (hW0: ∀W,Aw (fun _=>False) w W→w.heap.size+2≤W.heap.size→W0 W) (CQ: ∀x vs Wp W,E x vs Wp W→vs.size=ps.size) {F:α→Act→aS→aS→Prop} (hF: ∀x a Wp A B,F x a Wp A→(∃o,A.heap[w.heap.size]?=aE (.deferred o))→(∃o,A.heap[w.heap.size+1]?=aE (.loop o))→Aw (fun k=>k=w.heap.size∨k=w.heap.size+1) A B→F x a Wp B) (hU: ∀k,U k→k<w.heap.size)
  (hK: ∀k,K k→k<w.heap.size)
  (I:List α→aS→Prop) (Ix:Code→List α→aS→Prop) (hI: ∀pre A B,I pre A→Aw (fun k=>U k∨k=w.heap.size∨k=w.heap.size+1) A B→I pre B) (hIx: ∀c pre A B,Ix c pre A→Aw (fun k=>U k∨k=w.heap.size∨k=w.heap.size+1) A B→Ix c pre B)
  (h0:I [] w)
  (Pe: ∀(l:Nat) (x:α) (vs:Array aT) (Wp W:aS) (K:Act→aS→Prop),E x vs Wp W→Aw U Wp W→(∀a W',Aw (fun _=>False) W W'→F x a Wp W'→K a W')→
   assign.wpIn (Fence.wide.inRound l) (n-1-1) P (Exit.then K (fun _ _ _=>False)) { tmps:=(ps.zip vs).foldl (fun t (p,v)=>t.setIfInBounds p v) a.tmps,defers:= [] } W)
  (Te: ∀(pre:List α) (x:α) (a:Act) (Wp W:aS),I pre Wp→Aw (fun k=>U k∨k=w.heap.size∨k=w.heap.size+1) Wp W→F x a Wp W→(pre++ [x])<+:xs→w.heap.size+2≤W.heap.size→(∃o,W.heap[w.heap.size]?=aE (.deferred o))→(∃o,W.heap[w.heap.size+1]?=aE (.loop o))→body.wpIn (Fence.wide.inRound (w.heap.size+1)) (n-1-1) P (WC (fun k=>K k∨Wp.heap.size≤k∧k<W.heap.size) w.heap.size I Ix (pre++ [x]) W) a W)
  (LU: ∀(W:aS),I xs W→W.heap[w.heap.size]?=aE (.deferred (aE []))→Q .normal { a with defers:= { target:= .collected w.heap.size,args:= #[] } ::a.defers } W)
  (LV: ∀(c:Code) (pre:List α) (W:aS),pre<+:xs→Ix c pre W→W.heap[w.heap.size]?=aE (.deferred (aE []))→c.wpIn Fence.wide n P Q { a with defers:= { target:= .collected w.heap.size,args:= #[] } ::a.defers } W):
  (Code.rangeFunc g ps assign body).wpIn Fence.wide n P Q a w:=by
 refine wpIn_rangeFunc ?_;intro fn _;rw[show Fence.wide.round=J from D];obtain⟨rec,z6⟩: ∃rec:LoopState→Option Code→Loop,rec=fun st pe=> { state:=st,pending:=pe,fn,tmps:=a.tmps,params:=ps,assign,body,defers:=w.heap.size } :=⟨_,D⟩;obtain⟨W1,TZ⟩: ∃W1,(w.alloc (.deferred (aE []))).alloc (.loop (rec .ready J))=W1:=⟨_,D⟩;have NV:W1.heap[w.heap.size+1]?=aE (.loop (rec .ready J)):=by rw[←TZ];have:=rD (w.alloc (.deferred (aE []))) (.loop (rec .ready J));rwa[World.size_alloc] at this
 have zy:W1.heap[w.heap.size]?=aE (.deferred (aE [])):=by rw[←TZ];exact(Below.heap_alloc _ _ _ (by simp)).trans (rD w _)
 have hA1: ∀V:Nat→Prop,Aw V w W1:=fun V=>by rw[←TZ];exact((cY V w).alloc _).alloc _
 have jf:I [] W1:=hI _ _ _ h0 (hA1 _);have jg: ¬U w.heap.size:=fun h=>absurd (hU _ h) (Nat.lt_irrefl _);have jh: ¬U (w.heap.size+1):=fun h=>absurd (hU _ h) (by omega)
 refine⟨w.heap.size+1,[{ target:= .collected w.heap.size,args:= #[] }],W1,{ target:= .fn (.func gf) lb,args:= #[.func (.yield (w.heap.size+1)) #[] #[]] },W1,gf,
  #[.func (.yield (w.heap.size+1)) #[] #[]]++lb,W1,?_,?_,?_,?_,?_,?_⟩
 ·rw[←TZ,z6];exact run_enterLoop_outer _ _ _ _ _
 ·simp only[resolve,hg];simp[go_sem]
 ·intro f' hf';exact cM
 ·simp[invoke,go_sem,eg]
 ·intro hd;simp[Fence.wide] at hd
 ·refine(dd (w.heap.size+1)
   (fun pre W=>I pre W∧W.heap[w.heap.size+1]?=aE (.loop (rec .ready J))∧W.heap[w.heap.size]?=aE (.deferred (aE [])))
   (fun pre W=> ∃c,Ix c pre W∧W.heap[w.heap.size+1]?=aE (.loop (rec .done (aE c)))∧W.heap[w.heap.size]?=aE (.deferred (aE [])))
   W1 (hW0 _ (hA1 _) (by have:=(Array.getElem?_eq_some_iff.1 NV).1;omega))
   (fun pre A B hs ha=>⟨hI _ _ _ hs.1 (ha.mono fun k hk=> .inl hk),ha.keep hs.2.1 jh,ha.keep hs.2.2 jg⟩)
   (fun pre A B hs ha=>by
    obtain⟨c,hc,hl,hk⟩:=hs
    exact⟨c,hIx _ _ _ _ hc (ha.mono fun k hk=> .inl hk),ha.keep hl jh,ha.keep hk jg⟩)
   ?_ ⟨jf,NV,zy⟩).mono ?_
  ·rintro pre x vs Wp W ⟨NK,hlp,hkp⟩ hab hpre hex;have hl:=hab.keep hlp jh;have hk:=hab.keep hkp jg;have fF:w.heap.size+1<W.heap.size:=(Array.getElem?_eq_some_iff.1 hl).1;have hy:=run_yield (P:=P) (args:=vs) hl (by rw[z6];exact CQ x vs Wp W hex);rw[z6] at hy;refine⟨fn,_,assign,body,hy,roundIn_of_wpIn cM (Pe _ x vs Wp W _ hex hab (fun a1 Wa hwa tg=>⟨_,run_beginRound (hwa.keep hl (fun h=>h)) (by rw[z6]),?_⟩))⟩;have hla:=hwa.keep hl (fun h=>h);have hka:=hwa.keep hk (fun h=>h);have aDd:w.heap.size+1<Wa.heap.size:=Nat.lt_of_lt_of_le fF hwa.size;obtain⟨W2,UA⟩: ∃W2,W2=Wa.putObj (w.heap.size+1) (.loop { rec .ready J with state:= .busy }):=⟨_,D⟩;rw[←UA];have xT:W2.heap[w.heap.size+1]?=aE (.loop { rec .ready J with state:= .busy }):=by rw[UA];exact lF aDd
   have yM:W2.heap[w.heap.size]?=aE (.deferred (aE [])):=by rw[UA];exact(fS (by omega)).trans hka
   have ha2a:Aw (fun k=>k=w.heap.size+1) Wa W2:=by rw[UA];exact(cY _ Wa).put _ D
   have ha2:Aw (fun k=>k=w.heap.size+1) W W2:=(hwa.mono (fun k h=>h.elim)).trans ha2a;refine wpIn_mono (Te pre x a1 Wp _ NK ((hab.mono fun k hk=> .inl hk).trans (ha2.mono fun k hk=> .inr (.inr hk))) (hF _ _ _ _ _ tg ⟨_,hka⟩ ⟨_,hla⟩ (ha2a.mono fun k hk=> .inr hk)) hpre (by have:=ha2.size;omega) ⟨_,yM⟩ ⟨_,xT⟩) ?_
   have fin: ∀(jump:Option Code) (W3:aS),Keeps (fun k=>k=w.heap.size∨k=w.heap.size+1) W2 W3→
     (Instr.endRound (w.heap.size+1) jump).run P W3= .ok (aG jump.isNone) (W3.putObj (w.heap.size+1) (.loop (rec (if jump.isNone then .ready else .done) jump)))∧
     (W3.putObj (w.heap.size+1) (.loop (rec (if jump.isNone then .ready else .done) jump))).heap[w.heap.size+1]?=aE (.loop (rec (if jump.isNone then .ready else .done) jump))∧
     (W3.putObj (w.heap.size+1) (.loop (rec (if jump.isNone then .ready else .done) jump))).heap[w.heap.size]?=aE (.deferred (aE [])):=fun jump W3 hk3=>by
    have de:=hk3.2 _ _ (.inr D) xT;have:=run_endRound (P:=P) jump de;rw[z6] at this ⊢;exact⟨this,lF (Array.getElem?_eq_some_iff.1 de).1,(fS (by omega)).trans (hk3.2 _ _ (.inl D) yM)⟩
   have aw3: ∀(W3:aS) (o:Obj),Aw (fun k=>U k∨k=w.heap.size∨k=w.heap.size+1) W3 (W3.putObj (w.heap.size+1) o):=fun W3 o=>(cY _ W3).put o (.inr (.inr D));rintro e a3 W3 hp
   cases e with
   |normal=>
    obtain⟨hk3,F9⟩:=hp;obtain⟨hr,Pf,W6⟩:=fin J W3 (hk3.mono fun k hk=> .inr hk);refine⟨_,_,hr,.inl ⟨D,⟨hI _ _ _ F9 (aw3 W3 _),Pf,W6⟩,?_,fun k o hu ho=> ?_⟩⟩
    ·rw[qL];exact bU ha2.size hk3.1
    ·have aKt:w.heap.size+1<Wp.heap.size:=(Array.getElem?_eq_some_iff.1 hlp).1
     have hne:k≠w.heap.size+1:=fun e=>by
      rcases hu with hu|hu
      ·have:=hK k hu;omega
      ·omega
     exact(fS hne).trans (hk3.2 k o (.inl (hu.imp (fun h=>h) (fun h=>⟨h.1,Nat.lt_of_lt_of_le h.2 ha2.size⟩))) (ha2.keep ho hne))
   |ret=>
    obtain⟨hk3,F9⟩:=hp;obtain⟨hr,Pf,W6⟩:=fin (aE .ret) W3 hk3;exact⟨_,_,hr,.inr ⟨D,.ret,hIx _ _ _ _ F9 (aw3 W3 _),Pf,W6⟩⟩
   |exit id=>
    obtain⟨hk3,F9⟩:=hp;obtain⟨hr,Pf,W6⟩:=fin (aE (.exit id)) W3 hk3;exact⟨_,_,hr,.inr ⟨D,.exit id,hIx _ _ _ _ F9 (aw3 W3 _),Pf,W6⟩⟩
   |goto t=>
    obtain⟨hk3,F9⟩:=hp;obtain⟨hr,Pf,W6⟩:=fin (aE (.goto t)) W3 hk3;exact⟨_,_,hr,.inr ⟨D,.goto t,hIx _ _ _ _ F9 (aw3 W3 _),Pf,W6⟩⟩
   |panic ch=>exact hp.elim
   |outgrown=>exact hp.elim
  ·have aw3: ∀(W3:aS) (o:Obj),Aw (fun k=>U k∨k=w.heap.size∨k=w.heap.size+1) W3 (W3.putObj (w.heap.size+1) o):=fun W3 o=>(cY _ W3).put o (.inr (.inr D));rintro e W2 ⟨⟨v,rfl⟩,(⟨hi,hl,hk⟩|⟨pre,zz,c,hi,hl,hk⟩)⟩
   ·exact⟨J,_,by have:=run_endLoop (P:=P) hl (by rw[z6];simp);rw[z6] at this;exact this,LU _ (hI _ _ _ hi (aw3 W2 _)) ((fS (by omega)).trans hk)⟩
   ·exact⟨aE c,_,by have:=run_endLoop (P:=P) hl (by rw[z6];simp);rw[z6] at this;exact this,LV c pre _ zz (hIx _ _ _ _ hi (aw3 W2 _)) ((fS (by omega)).trans hk)⟩
theorem ZB{P:aZ}{n:Nat}{o:bA}{a:Act}{K:Act→aS→Prop}{Q' Q:Exit→Act→aS→Prop}{r:Result Next}(hQ: ∀e a w,Q' e a w→e= .normal)(h:o.upon P a K Q' r):o.uponIn Fence.wide n P a K Q r:=by
 cases r with
 |ok x w'=>
  cases x<;>simp only[Oper.upon,Oper.uponIn] at h ⊢ <;>
   first
    |exact h
    |exact⟨fun hd=>by simp[Fence.wide] at hd,callsIn_wide.2 (h.mono fun e Gz he=>by
      cases e with
      |returned v=>exact he
      |panicked c=>cases hQ _ _ _ he
      |outgrown=>obtain⟨_,_,he⟩:=he;cases hQ _ _ _ he)⟩
    |exact⟨fun hd=>by simp[Fence.wide] at hd,fun c cs _=>let⟨v,w',r,s⟩:=h c cs;⟨v,w',r,stepsIn_wide.2 s⟩⟩
    |exact h.elim
 |halt x w'=>cases x<;>simp only[Oper.upon,Oper.uponIn] at h ⊢ <;>first|exact h.elim|(cases hQ _ _ _ h)
theorem H7{P:aZ}{n:Nat}{ops:Array bA}{o:bA}{rest:List bA}{a:Act}{w:aS}{Q:Exit→Act→aS→Prop}(hw:Region.wanted o (bC ops a.tmps)=aF)
  (h:wpList P ops (fun e a' w'=>e= .normal∧wpListIn Fence.wide n P ops Q rest a' w') [o] a w):wpListIn Fence.wide n P ops Q (o::rest) a w:=by
 unfold wpList at h;rw[if_pos hw] at h;unfold wpListIn;rw[if_pos hw];rcases h with h|h
 ·have h2:o.wpIn Fence.wide n P a w (wpList P ops (fun e a' w'=>e= .normal∧wpListIn Fence.wide n P ops Q rest a' w') []) Q:=⟨fun f _=>trivial,ZB (fun e a w h=>h.1) h⟩;exact Oper.wpIn_mono (fun a' w' h'=>h'.2) h2
 ·obtain⟨_,_,h⟩:=h.2;cases h.1
theorem yL(t:aY){P:aZ}{F:Fence}{n:Nat}{w:aS}{ops:Array bA}{rest:List bA}{a:Act}{Q:Exit→Act→aS→Prop}{x y:Operand}{ty:aY}{pos:String}{af:Array Edge}{d:Option Tmp}{g:Option (Nat × Bool)}
  (h:Stop (wpListIn F n P ops Q (⟨d,.store t x y,ty,pos,af,g⟩::rest) a w)):wpListIn F n P ops Q (⟨d,.store t x y,ty,pos,af,g⟩::rest) a w:=h
theorem Qo(t:aY){P:aZ}{F:Fence}{n:Nat}{w:aS}{ops:Array bA}{rest:List bA}{a:Act}{Q:Exit→Act→aS→Prop}{d:Option Tmp}{ps:Array (Nat × Operand)}{ty:aY}{pos:String}{af:Array Edge}{g:Option (Nat × Bool)}
  (h:Stop (wpListIn F n P ops Q (⟨d,.build t ps,ty,pos,af,g⟩::rest) a w)):wpListIn F n P ops Q (⟨d,.build t ps,ty,pos,af,g⟩::rest) a w:=h
end
section
open Go.RowKit NumLaw
attribute [local go_sem] Addr.add_mid
theorem bw(w:aS):aU bH 47 #[O Y 0] w fun e w'=>e=aJ (O aQ 0)∧w=w':=by
 go_enter func47,ntmps47;go_wp2;go_ret;exact⟨D,D⟩
theorem YF(w:aS):aU bH 47 #[O Y 759250125] w fun e w'=>e=aJ (O aQ 759250125)∧w=w':=by
 go_enter func47,ntmps47;go_wp2;go_ret;exact⟨D,D⟩
theorem FX(w:aS):aU bH 290 #[O Y 2] w fun e w'=>e=aJ (O aR 3)∧w=w':=by
 go_enter func290,ntmps290;go_wp2;go_ret;exact⟨D,D⟩
theorem Ca(w:aS):aU bH 290 #[O Y 10] w fun e w'=>e=aJ (O aR 1023)∧w=w':=by
 go_enter func290,ntmps290;go_wp2;go_ret;exact⟨D,D⟩
theorem FP(w:aS):aU bH 289 #[O Y 30,O Y 2] w fun e w'=>e=aJ (aG aF)∧w=w':=by
 go_enter func289,ntmps289;go_wp2;go_ret;exact⟨D,D⟩
theorem JU(w:aS):aU bH 289 #[O Y 20,O Y 10] w fun e w'=>e=aJ (aG aF)∧w=w':=by
 go_enter func289,ntmps289;go_wp2;go_ret;exact⟨D,D⟩
theorem GH(w:aS):aU bH 289 #[O Y 10,O Y 10] w fun e w'=>e=aJ (aG aF)∧w=w':=by
 go_enter func289,ntmps289;go_wp2;go_ret;exact⟨D,D⟩
theorem OO(w:aS):aU bH 289 #[O Y 0,O Y 10] w fun e w'=>e=aJ (aG aF)∧w=w':=by
 go_enter func289,ntmps289;go_wp2;go_ret;exact⟨D,D⟩
theorem YD(w:aS):aU bH 247 #[O aR 0,O Y 30,O Y 2,O aR 0] w fun e w'=>e=aJ (aN #[O aR 0,aG aF])∧aV w.heap.size w w':=by
 go_enter func247,ntmps247;go_wp2_with fail;go_fit(FP w);rintro e w1 ⟨rfl,rfl⟩;go_wp2_with fail;go_fit(FX w);rintro e w1 ⟨rfl,rfl⟩;go_wp2_with fail;refine cQ (fun _=>True) aF [] (by kernel_rfl) (by kernel_rfl) trivial ?_;have hb:aV w.heap.size w w.drew:=(Below.refl _ _).drew;generalize w.drew=w2 at*;refine Ord.K ?_;refine Ord.K ?_;refine Ord.X ?_;go_wp2_with fail;go_fit(FX w2);rintro e w3 ⟨rfl,rfl⟩;go_wp2_with fail;refine cC trivial (fun _=>Below.refl _ _) ?_;refine PT ?_;iterate 9 refine Ord.K ?_
 refine cV ?_;go_wp2;go_ret2;exact⟨D,hb⟩
theorem an(w:aS):aU bH 247 #[O aR 0,O Y 20,O Y 10,O aR 512] w fun e w'=>e=aJ (aN #[O aR 536870912,aG aF])∧aV w.heap.size w w':=by
 go_enter func247,ntmps247;go_wp2_with fail;go_fit(JU w);rintro e w1 ⟨rfl,rfl⟩;go_wp2_with fail;go_fit(Ca w);rintro e w1 ⟨rfl,rfl⟩;go_wp2_with fail;refine cQ (fun _=>True) aF [] (by kernel_rfl) (by kernel_rfl) trivial ?_;have hb:aV w.heap.size w w.drew:=(Below.refl _ _).drew;generalize w.drew=w2 at*;refine Ord.K ?_;refine Ord.K ?_;refine Ord.X ?_;go_wp2_with fail;go_fit(Ca w2);rintro e w3 ⟨rfl,rfl⟩;go_wp2_with fail;refine cC trivial (fun _=>Below.refl _ _) ?_;refine PT ?_;iterate 9 refine Ord.K ?_
 refine cV ?_;go_wp2;go_ret2;exact⟨D,hb⟩
theorem ZN(w:aS):aU bH 247 #[O aR 536870912,O Y 10,O Y 10,O aR 512] w fun e w'=>e=aJ (aN #[O aR 537395200,aG aF])∧aV w.heap.size w w':=by
 go_enter func247,ntmps247;go_wp2_with fail;go_fit(GH w);rintro e w1 ⟨rfl,rfl⟩;go_wp2_with fail;go_fit(Ca w);rintro e w1 ⟨rfl,rfl⟩;go_wp2_with fail;refine cQ (fun _=>True) aF [] (by kernel_rfl) (by kernel_rfl) trivial ?_;have hb:aV w.heap.size w w.drew:=(Below.refl _ _).drew;generalize w.drew=w2 at*;refine Ord.K ?_;refine Ord.K ?_;refine Ord.X ?_;go_wp2_with fail;go_fit(Ca w2);rintro e w3 ⟨rfl,rfl⟩;go_wp2_with fail;refine cC trivial (fun _=>Below.refl _ _) ?_;refine PT ?_;iterate 9 refine Ord.K ?_
 refine cV ?_;go_wp2;go_ret2;exact⟨D,hb⟩
theorem nr(w:aS):aU bH 247 #[O aR 537395200,O Y 0,O Y 10,O aR 512] w fun e w'=>e=aJ (aN #[O aR 537395712,aG aF])∧aV w.heap.size w w':=by
 go_enter func247,ntmps247;go_wp2_with fail;go_fit(OO w);rintro e w1 ⟨rfl,rfl⟩;go_wp2_with fail;go_fit(Ca w);rintro e w1 ⟨rfl,rfl⟩;go_wp2_with fail;refine cQ (fun _=>True) aF [] (by kernel_rfl) (by kernel_rfl) trivial ?_;have hb:aV w.heap.size w w.drew:=(Below.refl _ _).drew;generalize w.drew=w2 at*;refine Ord.K ?_;refine Ord.K ?_;refine Ord.X ?_;go_wp2_with fail;go_fit(Ca w2);rintro e w3 ⟨rfl,rfl⟩;go_wp2_with fail;refine cC trivial (fun _=>Below.refl _ _) ?_;refine PT ?_;iterate 9 refine Ord.K ?_
 refine cV ?_;go_wp2;go_ret2;exact⟨D,hb⟩
theorem ZE(w:aS):aU bH 28 #[O Y 0,O Y 759250125] w fun e w'=>e=aJ (O Y 0)∧aV w.heap.size w w':=by
 go_enter func28,ntmps28;go_wp2_with fail;refine cQ (fun _=>True) aF [] (by kernel_rfl) (by kernel_rfl) trivial ?_;have hb:aV w.heap.size w w.drew:=(Below.refl _ _).drew;generalize w.drew=w2 at*;iterate 8 refine Ord.K ?_
 refine cV ?_;go_wp2_with fail;go_fit(bw w2);rintro e w3 ⟨rfl,rfl⟩;go_wp2_with fail;go_fit(YF w2);rintro e w3 ⟨rfl,rfl⟩;go_wp2;go_ret;exact⟨D,hb⟩
theorem IM(w:aS):aU bH 205 #[O Y 0] w fun e w'=>e=aJ (O aR 512)∧aV w.heap.size w w':=by
 go_enter func205,ntmps205;go_wp2_with fail;go_fit(ZE w);rintro e w2 ⟨rfl,hb⟩;go_wp2;go_ret;exact⟨D,hb⟩
theorem OU(g4 g5:Nat)(w:aS)(h4:w.heap[g4]?=aE (aI #[O aO 1073741824,O aO 0,O aO 0,O aO 0] 252))(h5:w.heap[g5]?=aE (aI #[O Y 0] 3)):
  aU bH 203 #[O aO 0,aK (aE ⟨g4,0,J⟩),aK (aE ⟨g5,0,J⟩)] w fun e w'=>e=aJ (O Y 0)∧w=w':=by
 have c0:=bL (i:=0) (v:=O aO 1073741824) h4 D;have d0:=bL (i:=0) (v:=O Y 0) h5 D;go_enter func203,ntmps203;go_wp2;go_ret;exact⟨D,D⟩
theorem RE(w:aS):aU bH 204 #[O Y 0] w fun e w'=>e=aJ (.func (.func 244) #[] #[aK (aE ⟨w.heap.size,0,J⟩)])∧w'=w.alloc (aI #[O Y 0] 3):=by
 go_enter func204,ntmps204;go_wp2;go_ret;exact⟨by simp,D⟩
theorem QK(w:aS):aU bH 207 #[] w fun e w'=>e=aJ (aL (aE ⟨w.heap.size,0,J⟩) 4 4)∧w'=w.alloc (aI #[O Y 2,O Y 10,O Y 10,O Y 10] 3):=by
 go_enter func207,ntmps207;go_wp2;go_ret;exact⟨by simp,D⟩
theorem ze(w:aS):aU bH 202 #[aM #[O aO 1073741824,O aO 0,O aO 0,O aO 0]] w fun e w'=>e=aJ (O Y 0)∧aV w.heap.size w w':=by
 have hb:aV w.heap.size w (w.alloc (aI #[O aO 1073741824,O aO 0,O aO 0,O aO 0] 252)):=(Below.refl _ _).alloc (bM _) _;have ix0: ∀w,(Instr.index 252 (aM #[O aO 1073741824,O aO 0,O aO 0,O aO 0]) (O Y 0)).run bH w= .ok (O aO 1073741824) w:=fun w=>by kernel_rfl
 have ix1: ∀w,(Instr.index 252 (aM #[O aO 1073741824,O aO 0,O aO 0,O aO 0]) (O Y 1)).run bH w= .ok (O aO 0) w:=fun w=>by kernel_rfl
 have ix2: ∀w,(Instr.index 252 (aM #[O aO 1073741824,O aO 0,O aO 0,O aO 0]) (O Y 2)).run bH w= .ok (O aO 0) w:=fun w=>by kernel_rfl
 have ix3: ∀w,(Instr.index 252 (aM #[O aO 1073741824,O aO 0,O aO 0,O aO 0]) (O Y 3)).run bH w= .ok (O aO 0) w:=fun w=>by kernel_rfl
 have h0:=bS w (aI #[O aO 1073741824,O aO 0,O aO 0,O aO 0] 252);go_enter func202,ntmps202;go_wp2_with fail;go_loopw [3,4,9] (fun K9 far i wr=>wr=w.alloc (aI #[O aO 1073741824,O aO 0,O aO 0,O aO 0] 252)∧((K9=O Y 0∧far=O Y (-1)∧i=O Y 0)∨(K9=O Y 0∧far=O Y 1073741824∧(i=O Y 1∨i=O Y 2∨i=O Y 3∨i=O Y 4)))) (fun _ _ i _=>4-(bE i).toNat);case atStart=>exact⟨D,.inl ⟨D,D,D⟩⟩
 case round=>
  obtain⟨rfl,⟨rfl,rfl,rfl⟩|⟨rfl,rfl,rfl|rfl|rfl|rfl⟩⟩:=hrel
  ·go_wp2;go_roundw;case rel=>first|(simp;done)|(simp;omega)
   case measure=>simp[bE]
  ·go_wp2;go_roundw;case rel=>simp
   case measure=>simp[bE]
  ·go_wp2;go_roundw;case rel=>simp
   case measure=>simp[bE]
  ·go_wp2;go_roundw;case rel=>simp
   case measure=>simp[bE]
  ·go_wp2;go_ret;exact⟨D,hb⟩
end
namespace topPrefix
theorem joined_of{P:aZ}{f:FuncId}{fn:Func}{s:ChangeSpec}{c:OpenClaim}(h1:c.wf (OpenSpec.ofChange s)=aF)(h2:laidOutB P=aF)(h3:mapsRowed P=aF)(h4:fn.params.all (P.readableRec ·)=aF)(h5:namedTie P c.named s.vars=aF)
  (h6:(c.stops== [])=aF) (h7:(P.stops== [])=aF) (h8:(c.knobs== [])=aF) (h9:(P.stopKnobs== [])=aF)
  (h10:(c.inPlace==P.inPlace f)=aF) (h11:(c.unfollowed==P.unfollowed f)=aF) (h12:(c.recurses==P.recurses f)=aF) (h13:(c.named==P.varsNamed f)=aF)
  (h14:(c.maps==(fn.params.toList++s.plain.varTypes P).any (P.mapsRec ·))=aF) (h15:(c.ifaces==(fn.params.toList++s.plain.varTypes P).any (P.ifacesRec ·))=aF) (h16:(c.mapsOut==P.mapsAmong fn.resultTypes.toList)=aF)
  (h17:(c.loops==(fn.params.toList++s.plain.varTypes P).any (P.loopsFrom ·))=aF) (h18:(c.wideKeys==(fn.params.toList++s.plain.varTypes P++fn.resultTypes.toList).any (P.wideKeysFrom ·))=aF)
  (h19:s.vars.all (P.varReadable ·)=aF) (h20:fn.resultTypes.all (fun t=>P.readableRec t && decide (t<P.types.size))=aF) (h21:(c.ifacesOut==fn.resultTypes.toList.any (P.ifacesRec ·))=aF) (h22:(c.loopsOut==fn.resultTypes.toList.any (P.loopsFrom ·))=aF)
  (h23:(c.plainKeys==P.plainKeys)=aF) (DP:c.shortTexts.isNone=aF) (MN:P.stopsHeard=aF) (MO:P.mayEnter=aF) (MP:(c.lifted==P.liftsFinal)=aF) (MQ:(P.make==aE c.make)=aF)
  (h29:(c.kinds==(if c.domain.isEmpty then [] else fn.params.toList.map fun t=>match P.underlying t with|some (.int k)=>aE k|_=>J))=aF) (h30:(c.pinned==c.pinnedBy)=aF)
  (h31:(c.veiled==(fn.params.toList++s.plain.varTypes P++fn.resultTypes.toList).any (P.veiledRec ·))=aF) (h32:c.veiledFits P fn.params.toList (fn.params.toList++s.plain.varTypes P++fn.resultTypes.toList)=aF):joinedFacts P f fn s c=aF:=by
 unfold joinedFacts;have am: ∀ {a b:Bool},a=aF→b=aF→(a && b)=aF:=fun ha hb=>by rw[ha,hb];rfl
 exact am (am (am (am (am (am (am (am (am (am (am (am (am (am (am (am (am (am (am (am (am (am (am (am (am (am (am (am (am (am (am h1 h2) h3) h4) h5) h6) h7) h8) h9) h10) h11) h12) h13) h14) h15) h16) h17) h18) h19) h20) h21) h22) h23) DP) MN) MO) MP) MQ) h29) h30) h31) h32
theorem types3:laidOutB Tryz.checked.prog=aF∧mapsRowed Tryz.checked.prog=aF:=
 have H:=Go.ClosedOfChecked.allSpec_of Tryz.checked.wellFormed (by kernel_rfl)
 ⟨Go.ClosedOfChecked.laidOutB_of H (by kernel_rfl),Go.ClosedOfChecked.mapsRowed_of H⟩
theorem c10:(Rows.topPrefixRow.inPlace==Tryz.pinned.checked.prog.inPlace 3)=aF:=by kernel_rfl
end topPrefix
namespace topPrefix
theorem c11:(Rows.topPrefixRow.unfollowed==Tryz.pinned.checked.prog.unfollowed 3)=aF:=by kernel_rfl
theorem c12:(Rows.topPrefixRow.recurses==Tryz.pinned.checked.prog.recurses 3)=aF:=by kernel_rfl
theorem c13:(Rows.topPrefixRow.named==Tryz.pinned.checked.prog.varsNamed 3)=aF:=by kernel_rfl
end topPrefix
namespace topPrefix
theorem closed:joinedFacts Tryz.pinned.checked.prog 3 Tryz.f3 Rows.topPrefixSpec Rows.topPrefixRow=aF:=
 joined_of (by kernel_rfl) types3.1 types3.2 (by kernel_rfl) (by kernel_rfl) (by kernel_rfl) (by kernel_rfl) (by kernel_rfl) (by kernel_rfl) c10 c11 c12 c13 (by kernel_rfl) (by kernel_rfl) (by kernel_rfl) (by kernel_rfl) (by kernel_rfl) (by kernel_rfl) (by kernel_rfl) (by kernel_rfl) (by kernel_rfl)
  (by kernel_rfl) (by kernel_rfl) (by kernel_rfl) (by kernel_rfl) (by kernel_rfl) (by kernel_rfl) (by kernel_rfl) (by kernel_rfl) (by kernel_rfl) (by kernel_rfl)
end topPrefix
end Go.Proofs.YtfoabhdppkjmbaaGreat
