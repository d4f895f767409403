import Derived.Test.YtfoabhdppkjmbaaGreatKZ1
import Derived.RangeFuncKeeps
import Derived.RangeFuncLeaves
import Derived.RangeFuncCalls
import Derived.OrdersIn
import Derived.Below
set_option linter.unusedSimpArgs false
set_option linter.unusedVariables false
namespace Go.Proofs.YtfoabhdppkjmbaaGreat
open Bool renaming false→aD,true→aF
open Go renaming Addr→aW,Oper→bA,Program→aZ,Value→aT,World→aS
open Go.Ending renaming returned→aJ
open Go.RowKit renaming Below→aV
open Go.Value renaming bool→aG
open Option renaming none→J,some→aE
section
open Go.RowKit
abbrev bU:=@Nat.le_trans
abbrev cM:=@trivial
abbrev fS:=@World.putObj_heap_other
abbrev lF:=@World.putObj_heap_same
abbrev qL:=@World.putObj_size
abbrev rD:=@World.alloc_heap_new
section bridge
variable {P:Program} {ops:Array Oper} {Q:Exit→Act→World→Prop}
def Bx(ops:Array bA):Bool:=ops.all fun o=>match o.op with| .defer _=>aD|_=>aF
theorem Ov{i:Nat}{o:bA}(h:Bx ops=aF)(hi:ops[i]?=aE o): ∀c,o.op≠ .defer c:=by
 intro c hc;obtain⟨fF,he⟩:=Array.getElem?_eq_some_iff.1 hi;have:=Array.all_eq_true.1 h i fF;rw[he,hc] at this;simp at this
theorem Z8{n l:Nat}{row:String}{args:Array aT}{w:aS}{R:aT→aS→Prop}(h:Rows P row args w R):RowsIn (Fence.wide.inRound l) n P row args w R:=
 fun c cs _=>let⟨v,w',r,s⟩:=h c cs;⟨v,w',r,stepsIn_wide.2 s⟩
theorem V7{n l:Nat}{o:bA}{a:Act}{K:Act→aS→Prop}{r:Result Next}(h:o.upon P a K Q r):o.uponIn (Fence.wide.inRound l) n P a K Q r:=by
 cases r with
 |ok x w'=>
  cases x<;>simp only[Oper.upon,Oper.uponIn] at h ⊢ <;>
   first
    |exact h
    |exact⟨fun hd=>by simp[Fence.wide] at hd,(callsIn_wide.2 h).inRound l⟩
    |exact⟨fun hd=>by simp[Fence.wide] at hd,Z8 h⟩
    |exact h.elim
 |halt x w'=>cases x<;>simp only[Oper.upon,Oper.uponIn] at h ⊢ <;>exact h
theorem Qp{n l:Nat}{o:bA}{a:Act}{w:aS}{K:Act→aS→Prop}(hd: ∀c,o.op≠ .defer c)(h:o.wp P a w K Q):o.wpIn (Fence.wide.inRound l) n P a w K Q:=by
 refine⟨fun f _=>trivial,?_⟩;rw[Oper.semAt_eq _ _ _ hd];exact V7 h
theorem J1{n l i:Nat}{a:Act}{w:aS}{K:Act→aS→Prop}(hn:Bx ops=aF)(hQ: ¬LetsOut Q)(h:wpOp P ops Q i K a w):wpOpIn (Fence.wide.inRound l) n P ops Q i K a w:=by
 unfold wpOp at h;unfold wpOpIn
 cases ho:ops[i]? with
 |none=>simpa only[ho] using h
 |some o=>
  simp only[ho] at h ⊢;split
  ·rename_i hw;rw[if_pos hw] at h;rcases h with h|h
   ·exact Qp (Ov hn ho) h
   ·exact absurd h.2 hQ
  ·rename_i hw;rw[if_neg hw] at h;exact⟨fun f _=>trivial,h⟩
theorem Ma{n l:Nat}{md:Region.Mode}(hn:Bx ops=aF)(hQ: ¬LetsOut Q): ∀(fuel:Nat) (listed:Array Bool) (a:Act) (w:aS),wpAny P md ops Q fuel listed a w→wpAnyIn (Fence.wide.inRound l) n P md ops Q fuel listed a w
 |0,_,_,_,h=>h
 |fuel+1,_,_,_,h=>⟨h.1,fun i hi=>wpOpIn_mono (fun a' w' h'=>Ma hn hQ fuel _ a' w' h') (J1 hn hQ (h.2 i hi))⟩
end bridge
structure Aw(U:Nat→Prop)(A B:aS):Prop where
 os:B.os=A.os
 tape:B.tape=A.tape
 output:B.output=A.output
 size:A.heap.size≤B.heap.size
 block: ∀k,k<A.heap.size→¬U k→B.heap[k]?=A.heap[k]?
section
variable {U U':Nat→Prop} {A B C:World}
theorem Aw.refl(U:Nat→Prop)(A:aS):Aw U A A:=⟨D,D,D,Nat.le_refl _,fun _ _ _=>rfl⟩
theorem Aw.trans(h:Aw U A B)(k:Aw U B C):Aw U A C:=
 ⟨k.os.trans h.os,k.tape.trans h.tape,k.output.trans h.output,bU h.size k.size,fun i hi hu=>(k.block i (Nat.lt_of_lt_of_le hi h.size) hu).trans (h.block i hi hu)⟩
theorem Aw.mono(h:Aw U A B)(hu: ∀k,U k→U' k):Aw U' A B:=⟨h.os,h.tape,h.output,h.size,fun i hi hn=>h.block i hi (fun e=>hn (hu i e))⟩
theorem Aw.drew(h:Aw U A B):Aw U A B.drew:=⟨h.os,h.tape,h.output,h.size,h.block⟩
theorem Aw.alloc(h:Aw U A B)(o:Obj):Aw U A (B.alloc o):=by
 refine⟨h.os,h.tape,h.output,bU h.size (by simp),fun i hi hu=> ?_⟩;exact(heap_alloc_old B o (h:=Nat.lt_of_lt_of_le hi h.size)).trans (h.block i hi hu)
theorem Aw.put(h:Aw U A B){r:Nat}(o:Obj)(hr:U r):Aw U A (B.putObj r o):=
 ⟨h.os,h.tape,h.output,by rw[qL];exact h.size,fun i hi hu=>(fS (fun e=>hu (by rw[e];exact hr))).trans (h.block i hi hu)⟩
theorem Aw.set(h:Aw U A B){p:aW}(v:aT)(hr:U p.block):Aw U A (B.setCell p v):=
 ⟨h.os,h.tape,h.output,by simpa [World.setCell] using h.size,fun i hi hu=>(Below.heap_setCell _ _ _ i (fun e=>hu (by rw[e];exact hr))).trans (h.block i hi hu)⟩
theorem Aw.of_below{n:Nat}(h:aV n A B)(hu: ∀k,k<A.heap.size→¬U k→k<n):Aw U A B:=⟨h.os,h.tape,h.output,h.size,fun i hi hn=>h.block i (hu i hi hn)⟩
theorem Aw.keep(h:Aw U A B){k:Nat}{o:Obj}(hk:A.heap[k]?=aE o)(hu: ¬U k):B.heap[k]?=aE o:=by
 have fF:k<A.heap.size:=by
  rcases Nat.lt_or_ge k A.heap.size with h1|h1
  ·exact h1
  ·rw[Array.getElem?_eq_none h1] at hk;cases hk
 exact(h.block k fF hu).trans hk
end
def Keeps(K:Nat→Prop)(A B:aS):Prop:=A.heap.size≤B.heap.size∧∀k o,K k→A.heap[k]?=aE o→B.heap[k]?=aE o
theorem Keeps.mono{K K':Nat→Prop}{A B:aS}(h:Keeps K A B)(hk: ∀k,K' k→K k):Keeps K' A B:=⟨h.1,fun k o hu ho=>h.2 k o (hk k hu) ho⟩
theorem Aw.keeps{U K:Nat→Prop}{A B:aS}(h:Aw U A B)(hk: ∀k,K k→¬U k):Keeps K A B:=⟨h.size,fun k o hu ho=>h.keep ho (hk k hu)⟩
def TB{α:Type}(P:aZ)(n:Nat)(g:Nat)(lb:Array aT)(CR:α→Array aT)(K U:Nat→Prop)(xs:List α)(W0:aS→Prop):Prop:=
 ∀(l:Nat) (aB Jx:List α→aS→Prop) (W:aS),W0 W→(∀pre A B,aB pre A→Aw U A B→aB pre B)→(∀pre A B,Jx pre A→Aw U A B→Jx pre B)→
  (∀pre x W1,aB pre W1→(pre++ [x])<+:xs→YieldAt Fence.wide (n-1) P l (CR x) W1 fun e W'=>
   (e=aJ (aG aF)∧aB (pre++ [x]) W'∧Keeps K W1 W')∨(e=aJ (aG aD)∧Jx (pre++ [x]) W'))→
  aB [] W→
  CallsIn Fence.wide n P g (#[.func (.yield l) #[] #[]]++lb) W fun e W'=>(∃v,e=aJ v)∧(aB xs W'∨∃pre,pre<+:xs∧Jx pre W')
def WC{α:Type}(K:Nat→Prop)(aA:Nat)(I:List α→aS→Prop)(Ix:Code→List α→aS→Prop)(xs:List α)(W:aS):Exit→Act→aS→Prop
 | .normal,_,W'=>Keeps (fun k=>K k∨k=aA∨k=aA+1) W W'∧I xs W'
 | .ret,_,W'=>Keeps (fun k=>k=aA∨k=aA+1) W W'∧Ix .ret xs W'
 | .exit id,_,W'=>Keeps (fun k=>k=aA∨k=aA+1) W W'∧Ix (.exit id) xs W'
 | .goto t,_,W'=>Keeps (fun k=>k=aA∨k=aA+1) W W'∧Ix (.goto t) xs W'
 | .panic _,_,_=>False
 | .outgrown,_,_=>False
theorem vP{P:aZ}{n:Nat}{α:Type}{g:Operand}{ps:Array Tmp}{assign body:Code}{Q:Exit→Act→aS→Prop}{a:Act}{w:aS}
  {gf:Nat} {lb:Array aT} (hg:a.eval g= .func (.func gf) #[] lb) (eg: ∀args w,(callFunc gf args).run P w= .ok (.enter gf args) w)
  {CR:α→Array aT} {K U:Nat→Prop} {xs:List α} {W0:aS→Prop} (dd:TB P (n-1) gf lb CR K U xs W0) (hW0: ∀W,Aw (fun _=>False) w W→W0 W) (CQ: ∀x,(CR x).size=ps.size) (hU: ∀k,U k→k<w.heap.size)
  (hK: ∀k,K k→k<w.heap.size)
  (I:List α→aS→Prop) (Ix:Code→List α→aS→Prop) (hI: ∀pre A B,I pre A→Aw (fun k=>U k∨k=w.heap.size∨k=w.heap.size+1) A B→I pre B) (hIx: ∀c pre A B,Ix c pre A→Aw (fun k=>U k∨k=w.heap.size∨k=w.heap.size+1) A B→Ix c pre B)
  (h0:I [] w) (a₁:α→Act)
  (Pe: ∀(l:Nat) (x:α) (W:aS) (K:Act→aS→Prop),K (a₁ x) W→
   assign.wpIn (Fence.wide.inRound l) (n-1-1) P (Exit.then K (fun _ _ _=>False)) { tmps:=(ps.zip (CR x)).foldl (fun t (p,v)=>t.setIfInBounds p v) a.tmps,defers:= [] } W)
  (Te: ∀(pre:List α) (x:α) (W:aS),I pre W→(pre++ [x])<+:xs→w.heap.size+2≤W.heap.size→body.wpIn (Fence.wide.inRound (w.heap.size+1)) (n-1-1) P (WC K w.heap.size I Ix (pre++ [x]) W) (a₁ x) W)
  (LU: ∀(W:aS),I xs W→W.heap[w.heap.size]?=aE (.deferred (aE []))→Q .normal { a with defers:= { target:= .collected w.heap.size,args:= #[] } ::a.defers } W)
  (LV: ∀(c:Code) (pre:List α) (W:aS),pre<+:xs→Ix c pre W→W.heap[w.heap.size]?=aE (.deferred (aE []))→c.wpIn Fence.wide n P Q { a with defers:= { target:= .collected w.heap.size,args:= #[] } ::a.defers } W):
  (Code.rangeFunc g ps assign body).wpIn Fence.wide n P Q a w:=by
 refine wpIn_rangeFunc ?_;intro fn _;rw[show Fence.wide.round=J from D];obtain⟨rec,z6⟩: ∃rec:LoopState→Option Code→Loop,rec=fun st pe=> { state:=st,pending:=pe,fn,tmps:=a.tmps,params:=ps,assign,body,defers:=w.heap.size } :=⟨_,D⟩;obtain⟨W1,TZ⟩: ∃W1,(w.alloc (.deferred (aE []))).alloc (.loop (rec .ready J))=W1:=⟨_,D⟩;have NV:W1.heap[w.heap.size+1]?=aE (.loop (rec .ready J)):=by rw[←TZ];have:=rD (w.alloc (.deferred (aE []))) (.loop (rec .ready J));rwa[World.size_alloc] at this
 have zy:W1.heap[w.heap.size]?=aE (.deferred (aE [])):=by rw[←TZ];exact(Below.heap_alloc _ _ _ (by simp)).trans (rD w _)
 have hA1: ∀V:Nat→Prop,Aw V w W1:=fun V=>by rw[←TZ];exact((Aw.refl V w).alloc _).alloc _
 have jf:I [] W1:=hI _ _ _ h0 (hA1 _);have jg: ¬U w.heap.size:=fun h=>absurd (hU _ h) (Nat.lt_irrefl _);have jh: ¬U (w.heap.size+1):=fun h=>absurd (hU _ h) (by omega)
 refine⟨w.heap.size+1,[{ target:= .collected w.heap.size,args:= #[] }],W1,{ target:= .fn (.func gf) lb,args:= #[.func (.yield (w.heap.size+1)) #[] #[]] },W1,gf,
  #[.func (.yield (w.heap.size+1)) #[] #[]]++lb,W1,?_,?_,?_,?_,?_,?_⟩
 ·rw[←TZ,z6];exact run_enterLoop_outer _ _ _ _ _
 ·simp only[resolve,hg];simp[go_sem]
 ·intro f' hf';exact cM
 ·simp[invoke,go_sem,eg]
 ·intro hd;simp[Fence.wide] at hd
 ·refine(dd (w.heap.size+1)
   (fun pre W=>I pre W∧W.heap[w.heap.size+1]?=aE (.loop (rec .ready J))∧W.heap[w.heap.size]?=aE (.deferred (aE [])))
   (fun pre W=> ∃c,Ix c pre W∧W.heap[w.heap.size+1]?=aE (.loop (rec .done (aE c)))∧W.heap[w.heap.size]?=aE (.deferred (aE [])))
   W1 (hW0 _ (hA1 _))
   (fun pre A B hs ha=>⟨hI _ _ _ hs.1 (ha.mono fun k hk=> .inl hk),ha.keep hs.2.1 jh,ha.keep hs.2.2 jg⟩)
   (fun pre A B hs ha=>by
    obtain⟨c,hc,hl,hk⟩:=hs
    exact⟨c,hIx _ _ _ _ hc (ha.mono fun k hk=> .inl hk),ha.keep hl jh,ha.keep hk jg⟩)
   ?_ ⟨jf,NV,zy⟩).mono ?_
  ·rintro pre x W ⟨hi,hl,hk⟩ hpre;have fF:w.heap.size+1<W.heap.size:=(Array.getElem?_eq_some_iff.1 hl).1;have hy:=run_yield (P:=P) (args:=CR x) hl (by rw[z6];exact CQ x);rw[z6] at hy;refine⟨fn,_,assign,body,hy,roundIn_of_wpIn cM (Pe _ x W _ ⟨_,run_beginRound hl (by rw[z6]),?_⟩)⟩;obtain⟨W2,UA⟩: ∃W2,W2=W.putObj (w.heap.size+1) (.loop { rec .ready J with state:= .busy }):=⟨_,D⟩;rw[←UA];have xT:W2.heap[w.heap.size+1]?=aE (.loop { rec .ready J with state:= .busy }):=by rw[UA];exact lF fF
   have yM:W2.heap[w.heap.size]?=aE (.deferred (aE [])):=by rw[UA];exact(fS (by omega)).trans hk
   have ha2:Aw (fun k=>k=w.heap.size+1) W W2:=by rw[UA];exact(Aw.refl _ W).put _ D
   refine wpIn_mono (Te pre x _ (hI _ _ _ hi (ha2.mono fun k hk=> .inr (.inr hk))) hpre (by have:=ha2.size;omega)) ?_
   have fin: ∀(jump:Option Code) (W3:aS),Keeps (fun k=>k=w.heap.size∨k=w.heap.size+1) W2 W3→
     (Instr.endRound (w.heap.size+1) jump).run P W3= .ok (aG jump.isNone) (W3.putObj (w.heap.size+1) (.loop (rec (if jump.isNone then .ready else .done) jump)))∧
     (W3.putObj (w.heap.size+1) (.loop (rec (if jump.isNone then .ready else .done) jump))).heap[w.heap.size+1]?=aE (.loop (rec (if jump.isNone then .ready else .done) jump))∧
     (W3.putObj (w.heap.size+1) (.loop (rec (if jump.isNone then .ready else .done) jump))).heap[w.heap.size]?=aE (.deferred (aE [])):=fun jump W3 hk3=>by
    have de:=hk3.2 _ _ (.inr D) xT;have:=run_endRound (P:=P) jump de;rw[z6] at this ⊢;exact⟨this,lF (Array.getElem?_eq_some_iff.1 de).1,(fS (by omega)).trans (hk3.2 _ _ (.inl D) yM)⟩
   have aw3: ∀(W3:aS) (o:Obj),Aw (fun k=>U k∨k=w.heap.size∨k=w.heap.size+1) W3 (W3.putObj (w.heap.size+1) o):=fun W3 o=>(Aw.refl _ W3).put o (.inr (.inr D));rintro e a3 W3 hp
   cases e with
   |normal=>
    obtain⟨hk3,F9⟩:=hp;obtain⟨hr,Pf,W6⟩:=fin J W3 (hk3.mono fun k hk=> .inr hk);refine⟨_,_,hr,.inl ⟨D,⟨hI _ _ _ F9 (aw3 W3 _),Pf,W6⟩,?_,fun k o hu ho=> ?_⟩⟩
    ·rw[qL];exact bU ha2.size hk3.1
    ·have hne:k≠w.heap.size+1:=fun e=>by have:=hK k hu;omega
     exact(fS hne).trans (hk3.2 k o (.inl hu) (ha2.keep ho hne))
   |ret=>
    obtain⟨hk3,F9⟩:=hp;obtain⟨hr,Pf,W6⟩:=fin (aE .ret) W3 hk3;exact⟨_,_,hr,.inr ⟨D,.ret,hIx _ _ _ _ F9 (aw3 W3 _),Pf,W6⟩⟩
   |exit id=>
    obtain⟨hk3,F9⟩:=hp;obtain⟨hr,Pf,W6⟩:=fin (aE (.exit id)) W3 hk3;exact⟨_,_,hr,.inr ⟨D,.exit id,hIx _ _ _ _ F9 (aw3 W3 _),Pf,W6⟩⟩
   |goto t=>
    obtain⟨hk3,F9⟩:=hp;obtain⟨hr,Pf,W6⟩:=fin (aE (.goto t)) W3 hk3;exact⟨_,_,hr,.inr ⟨D,.goto t,hIx _ _ _ _ F9 (aw3 W3 _),Pf,W6⟩⟩
   |panic ch=>exact hp.elim
   |outgrown=>exact hp.elim
  ·have aw3: ∀(W3:aS) (o:Obj),Aw (fun k=>U k∨k=w.heap.size∨k=w.heap.size+1) W3 (W3.putObj (w.heap.size+1) o):=fun W3 o=>(Aw.refl _ W3).put o (.inr (.inr D));rintro e W2 ⟨⟨v,rfl⟩,(⟨hi,hl,hk⟩|⟨pre,zz,c,hi,hl,hk⟩)⟩
   ·exact⟨J,_,by have:=run_endLoop (P:=P) hl (by rw[z6];simp);rw[z6] at this;exact this,LU _ (hI _ _ _ hi (aw3 W2 _)) ((fS (by omega)).trans hk)⟩
   ·exact⟨aE c,_,by have:=run_endLoop (P:=P) hl (by rw[z6];simp);rw[z6] at this;exact this,LV c pre _ zz (hIx _ _ _ _ hi (aw3 W2 _)) ((fS (by omega)).trans hk)⟩
abbrev cY:=@Aw.refl
abbrev tO:=@Aw.of_below
end
end Go.Proofs.YtfoabhdppkjmbaaGreat
