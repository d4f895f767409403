import Derived.Test.YtfoabhdppkjmbaaGreatKZ5
import Derived.Test.YtfoabhdppkjmbaaGreatKZ7
set_option linter.unusedSimpArgs false
set_option linter.unusedVariables false
set_option maxHeartbeats 8000000
set_option maxRecDepth 20000
namespace Go.Proofs.YtfoabhdppkjmbaaGreat
open Bool renaming false→aD,true→aF
open Go renaming Addr→aW,Calls→aU,Ending→aX,Oper→bA,Program→aZ,TypeId→aY,Value→aT,World→aS,maxLen→bB
open Go.Ending renaming returned→aJ
open Go.IntKind renaming i64→Y
open Go.Obj renaming cells→aI
open Go.Proofs.Tryz renaming prog→bH
open Go.RowKit renaming Below→aV,intOf→bE
open Go.Value renaming agg→aM,bool→aG,int→O,pointer→aK,slice→aL,string→aH
open Option renaming none→J,some→aE
open Go.Proofs.Tryz
namespace NumLaw
end NumLaw
section
open Go.RowKit NumLaw
abbrev eN:=@List.getElem?_map
abbrev jO:=@List.getD_eq_getElem?_getD
abbrev vE:=@List.all_eq_true
structure PtT where
 nm:ByteArray
 sz:Int
 sg:Bool
 mn:Int
def pH(p:PtT):List aT:= [aH p.nm,O Y p.sz,aG p.sg,O Y p.mn]
def B2(n:Int):Nat:=if n<1 then 1 else n.toNat
def Tt(n:Int):Prop:=n=8∨n=4∨n=2∨n=1
def iq(l:List PtT):Prop:= ∀p∈l,Tt p.sz
def Jf:Nat→List PtT→List (PtT × Nat)
 |_,[]=> []
 |n,p::l=>(p,n)::Jf (n+B2 p.mn) l
def pY(l:List PtT):Nat:=(l.map fun p=>B2 p.mn).foldl (· + ·) 0
def Gp(l:List PtT):Nat:=(l.map fun p=>p.sz.toNat*B2 p.mn).foldl (· + ·) 0
abbrev If:=Int × Bool × Nat
def EF(p:PtT × Nat):List If:=(List.range (B2 p.1.mn)).map fun j=>(p.1.sz,p.1.sg,p.2+j)
def Aj(l:List PtT):List If:=(Jf 0 l).flatMap EF
def G8(s:If):Int:=s.1
def kI(l:List PtT):List If:=Bw G8 (Aj l)
def qG(s:If):eK:=nR s.1 s.2.1
def Ck(v:List Int)(s:If):Int:=v.getD s.2.2 0
theorem Sf: ∀(l:List PtT) (n:Nat) (p:PtT × Nat),p∈Jf n l→p.1∈l
 | [],_,_,h=>by cases h
 |q::l,n,p,h=>by
  rcases List.mem_cons.1 h with rfl|h
  ·exact cP
  ·exact dV _ (Sf l _ p h)
theorem vB(l:List Nat)(a:Nat):l.foldl (· + ·) a=a+l.foldl (· + ·) 0:=by
 induction l generalizing a with
 |nil=>rfl
 |cons x l ih=>rw[gL,gL,ih (a+x),ih (0+x)];omega
theorem Mz(p:PtT)(l:List PtT):pY (p::l)=B2 p.mn+pY l:=by
 unfold pY;rw[eE,gL,vB];omega
theorem BD(p:PtT)(l:List PtT):pY (l++ [p])=pY l+B2 p.mn:=by
 unfold pY;rw[gZ,List.foldl_append];rfl
theorem ER(p:PtT)(l:List PtT):Gp (p::l)=p.sz.toNat*B2 p.mn+Gp l:=by
 unfold Gp;rw[eE,gL,vB];omega
theorem KG(p:PtT)(l:List PtT):Gp (l++ [p])=Gp l+p.sz.toNat*B2 p.mn:=by
 unfold Gp;rw[gZ,List.foldl_append];rfl
theorem Ui: ∀(l:List PtT) (n:Nat),((Jf n l).flatMap EF).map (fun s=>s.2.2)=List.range' n (pY l)
 | [],n=>rfl
 |p::l,n=>by show((EF (p,n))++(Jf (n+B2 p.mn) l).flatMap EF).map _=_;rw[gZ,Ui l,Mz,←List.range'_append_1];congr 1;unfold EF;rw[List.map_map,List.range'_eq_map_range];rfl
theorem Yi(l:List PtT):(Aj l).length=pY l:=by
 have:=gD List.length (Ui l 0)
 rwa[List.length_map,List.length_range'] at this
theorem L9{α:Type}(sz:α→Int)(x:α): ∀r:List α,(Cw sz x r).Perm (x::r)
 | []=>List.Perm.refl _
 |y::r=>by
  unfold Cw;split
  ·exact((L9 sz x r).cons y).trans (List.Perm.swap x y r)
  ·exact List.Perm.refl _
theorem St{α:Type}(sz:α→Int): ∀l:List α,(Bw sz l).Perm l:=Jm (p:=fun l=>(Bw sz l).Perm l) (List.Perm.refl _) fun l x ih=>by
 rw[Ec];refine(List.reverse_perm _).trans ((L9 sz x _).trans ?_);refine(((List.reverse_perm _).trans ih).cons x).trans ?_;exact(List.perm_append_singleton x l).symm
theorem Yr(l:List PtT):((kI l).map (fun s=>s.2.2)).Perm (List.range (pY l)):=by
 have h:=(St G8 (Aj l)).map (fun s:If=>s.2.2);unfold Aj at h;rw[Ui,←List.range_eq_range'] at h;exact h
theorem Il(l:List PtT):(kI l).length=pY l:=by unfold kI;rw[O0,Yi]
theorem YY(p:PtT × Nat): ∀s∈EF p,G8 s=p.1.sz:=fun s hs=>by
 obtain⟨j,_,rfl⟩:=List.mem_map.1 hs;rfl
theorem nc{l:List PtT}(h:iq l): ∀s∈Aj l,Tt s.1:=fun s hs=>by
 obtain⟨p,hp,hs⟩:=List.mem_flatMap.1 hs;have e:s.1=p.1.sz:=YY p s hs;rw[e];exact h _ (Sf l 0 p hp)
theorem Wl{l:List PtT}(h:iq l): ∀s∈kI l,Tt s.1:=fun s hs=>nc h s ((Yk G8 _).1 hs)
theorem Mt{n:Int}(h:Tt n)(sg:Bool):rS (nR n sg)=aF∧(nR n sg).size=n:=by
 rcases h with rfl|rfl|rfl|rfl<;>cases sg<;>decide
theorem Va{L:List If}(h: ∀s∈L,Tt s.1):mX (L.map qG)=aF:=by
 unfold mX;rw[vE];intro f hf;obtain⟨s,hs,rfl⟩:=List.mem_map.1 hf;exact(Mt (h s hs) _).1
theorem LQ{L:List If}(h: ∀s∈L,Tt s.1):(pA (L.map qG):Nat)=(L.map fun s=>s.1.toNat).foldl (· + ·) 0:=by
 unfold pA;rw[List.map_map];congr 1;refine List.map_congr_left fun s hs=> ?_;show(nR s.1 s.2.1).size.toNat=_;rw[(Mt (h s hs) _).2]
theorem Ur{l l':List Nat}(h:l.Perm l'):l.foldl (· + ·) 0=l'.foldl (· + ·) 0:=by
 induction h with
 |nil=>rfl
 |cons x _ ih=>rw[gL,gL,vB,vB _ (0+x),ih]
 |swap x y l=>rw[gL,gL,gL,gL];congr 1;omega
 |trans _ _ h1 h2=>rw[h1,h2]
theorem av(p:PtT × Nat):((EF p).map fun s=>s.1.toNat).foldl (· + ·) 0=p.1.sz.toNat*B2 p.1.mn:=by
 unfold EF;rw[List.map_map];generalize B2 p.1.mn=n
 induction n with
 |zero=>rfl
 |succ n ih=>
  rw[List.range_succ,gZ,List.foldl_append,ih,Nat.mul_succ];rfl
theorem JR: ∀(l:List PtT) (n:Nat),(((Jf n l).flatMap EF).map fun s=>s.1.toNat).foldl (· + ·) 0=Gp l
 | [],_=>rfl
 |p::l,n=>by show((EF (p,n)++(Jf (n+B2 p.mn) l).flatMap EF).map _).foldl _ _=_;rw[gZ,List.foldl_append,vB,JR l,av,ER]
theorem SJ{l:List PtT}(h:iq l):pA ((kI l).map qG)=Gp l:=by
 rw[LQ (Wl h)];unfold kI;rw[Ur ((St G8 (Aj l)).map (fun s:If=>s.1.toNat))];exact JR l 0
def Dw(l:List PtT)(v:List Int):Nat:=if v.length=pY l then My ((kI l).map qG) ((kI l).map (Ck v)) else 1
def zF(l:List PtT)(v:List Int):List UInt8:=if v.length=pY l then Mq ((kI l).map qG) ((kI l).map (Ck v)) else []
def Cc(o:List Int)(L:List (Nat × Int)):List Int:=L.foldl (fun o p=>o.set p.1 p.2) o
theorem Sg: ∀(L:List (Nat × Int)) (o:List Int),(Cc o L).length=o.length
 | [],_=>rfl
 |p::L,o=>by show(Cc (o.set p.1 p.2) L).length=_;rw[Sg L,jQ]
theorem LI(o:List Int)(L L':List (Nat × Int)):Cc o (L++L')=Cc (Cc o L) L':=by unfold Cc;rw[List.foldl_append]
theorem Su: ∀(L:List (Nat × Int)) (o:List Int) (k:Nat),(∀p∈L,p.1≠k)→(Cc o L)[k]?=o[k]?
 | [],_,_,_=>rfl
 |p::L,o,k,h=>by show(Cc (o.set p.1 p.2) L)[k]?=_;rw[Su L _ k (fun q hq=>h q (dV _ hq)),List.getElem?_set_ne (h p cP)]
theorem Yf: ∀(L:List (Nat × Int)) (o:List Int),(L.map Prod.fst).Nodup→∀p∈L,p.1<o.length→(Cc o L)[p.1]?=aE p.2
 | [],_,_,_,h,_=>by cases h
 |q::L,o,hn,p,hp,hl=>by
  rw[eE,List.nodup_cons] at hn;show(Cc (o.set q.1 q.2) L)[p.1]?=_;rcases List.mem_cons.1 hp with rfl|hp
  ·rw[Su L _ _ (fun r hr e=>hn.1 (List.mem_map.2 ⟨r,hr,e⟩)),List.getElem?_set_self hl]
  ·exact Yf L _ hn.2 p hp (by rw[jQ];exact hl)
def D0(l:List PtT):List Nat:=(kI l).map fun s=>s.2.2
def L5(l:List PtT)(b:List UInt8):Nat:=jM ((kI l).map qG) b
def Gg(l:List PtT)(b:List UInt8):List Int:=if L5 l b=0 then Cc (List.replicate (pY l) 0) ((D0 l).zip (oF ((kI l).map qG) b)) else []
theorem BE(l:List PtT):(D0 l).Nodup:=(Yr l).nodup_iff.2 List.nodup_range
theorem Oa(l:List PtT)(k:Nat):k∈D0 l↔k<pY l:=by unfold D0;rw[(Yr l).mem_iff,List.mem_range]
theorem BL(l:List PtT)(v:List Int)(hv:v.length=pY l):Cc (List.replicate (pY l) 0) ((D0 l).zip ((D0 l).map fun k=>v.getD k 0))=v:=by
 refine List.ext_getElem? fun k=> ?_;by_cases hk:k<pY l
 ·have hm:=(Oa l k).2 hk;obtain⟨i,hi⟩:=List.getElem?_of_mem hm;have hz:((D0 l).zip ((D0 l).map fun k=>v.getD k 0)).map Prod.fst=D0 l:=by rw[List.map_fst_zip (by rw[List.length_map];exact bM _)]
  have Tv:(k,v.getD k 0)∈(D0 l).zip ((D0 l).map fun k=>v.getD k 0):=by refine dD (i:=i) ?_;rw[jY];exact⟨hi,by rw[eN,hi];rfl⟩
  have h3:=Yf _ (List.replicate (pY l) 0) (by rw[hz];exact BE l) _ Tv (by rw[List.length_replicate];exact hk);rw[h3,cF (by omega),jO,cF (by omega)];rfl
 ·rw[nK (by rw[Sg,List.length_replicate];omega),nK (by omega)]
theorem TK(l:List PtT)(v:List Int):(kI l).map (Ck v)=(D0 l).map fun k=>v.getD k 0:=by unfold D0;rw[List.map_map];rfl
theorem Z4{l:List PtT}{v:List Int}(hq:iq l)(h:Dw l v=0):L5 l (zF l v)=0∧Gg l (zF l v)=v∧(zF l v).length=Gp l∧v.length=pY l:=by
 unfold Dw at h;by_cases hv:v.length=pY l
 ·rw[bY hv] at h;obtain⟨h1,h2,h3⟩:=Rn h;have hb:zF l v=Mq ((kI l).map qG) ((kI l).map (Ck v)):=by unfold zF;rw[bY hv]
  have h4:L5 l (zF l v)=0:=by rw[hb];exact h1
  refine⟨h4,?_,?_,hv⟩
  ·unfold Gg;rw[bY h4,hb];unfold uT at h2;rw[bY h1] at h2;rw[h2,TK,BL l v hv]
  ·rw[hb,h3];unfold wA;rw[bY (Va (Wl hq)),SJ hq]
 ·rw[bX hv] at h;cases h
end
section
open Go.RowKit Go.ChangeShapes Go.WideShapes Go.ChangeAt
def RdP(w:aS)(B:Nat)(A:Option aW)(n c:Nat)(L:List PtT):Prop:=RdR w B 4 A n c (L.map pH)
theorem Yh(L:List PtT): ∀r∈L.map pH,r.length=4:=fun r hr=>by obtain⟨p,_,rfl⟩:=List.mem_map.1 hr;rfl
theorem Eg(p:PtT): ∀u∈pH p,u.oneCell'=aF:=fun u hu=>by
 simp only[pH,fL,List.not_mem_nil,or_false] at hu;rcases hu with rfl|rfl|rfl|rfl<;>rfl
theorem RdP.at_{w:aS}{B:Nat}{A:Option aW}{n c:Nat}{L:List PtT}(h:RdP w B A n c L){k:Nat}(hk:k<n): ∃g off x,A=aE ⟨g,off,J⟩∧g<B∧L[k]?=aE x∧w.rangeAt g (off+k*4) (pH x):=by
 obtain⟨g,off,r,h1,h2,h3,h4,h5⟩:=RdR.at_ h hk;rw[eN] at h3
 cases hx:L[k]? with
 |none=>rw[hx] at h3;cases h3
 |some x=>
  rw[hx] at h3;injection h3 with h3;subst h3;exact⟨g,off,x,h1,h2,D,h5⟩
theorem RdP.len{w:aS}{B:Nat}{A:Option aW}{n c:Nat}{L:List PtT}(h:RdP w B A n c L):L.length=n:=by have:=h.1;rwa[List.length_map] at this
theorem RdP.own{w:aS}{base:Nat}{e:aY}{A:Option aW}{n c:Nat}{L:List PtT}(h:w.ownsRow base e 4 (aL A n c) n (L.map pH).flatten)(hl:L.length=n):RdP w w.heap.size A n c L:=
 RdR.own (ls:=L.map pH) h (by rw[List.length_map];exact hl) (Yh L)
section
variable {H:Type} {enc:TypeId × Value→H} {W:World}
end
end
abbrev uV:=ByteArray × List PtT
def wY:uV:=(⟨#[]⟩,[])
def wg:uV:=(⟨#[72,69,65,82,84,66,69,65,84]⟩,[⟨⟨#[116,121,112,101]⟩,1,aD,0⟩,⟨⟨#[97,117,116,111,112,105,108,111,116]⟩,1,aD,0⟩,⟨⟨#[98,97,115,101,95,109,111,100,101]⟩,1,aD,0⟩,⟨⟨#[99,117,115,116,111,109,95,109,111,100,101]⟩,4,aD,0⟩,⟨⟨#[115,121,115,116,101,109,95,115,116,97,116,117,115]⟩,1,aD,0⟩,⟨⟨#[109,97,118,108,105,110,107,95,118,101,114,115,105,111,110]⟩,1,aD,0⟩])
def wi:uV:=(⟨#[83,89,83,95,83,84,65,84,85,83]⟩,[⟨⟨#[111,110,98,111,97,114,100,95,99,111,110,116,114,111,108,95,115,101,110,115,111,114,115,95,112,114,101,115,101,110,116]⟩,4,aD,0⟩,⟨⟨#[111,110,98,111,97,114,100,95,99,111,110,116,114,111,108,95,115,101,110,115,111,114,115,95,101,110,97,98,108,101,100]⟩,4,aD,0⟩,⟨⟨#[111,110,98,111,97,114,100,95,99,111,110,116,114,111,108,95,115,101,110,115,111,114,115,95,104,101,97,108,116,104]⟩,4,aD,0⟩,⟨⟨#[108,111,97,100]⟩,2,aD,0⟩,⟨⟨#[118,111,108,116,97,103,101,95,98,97,116,116,101,114,121]⟩,2,aD,0⟩,⟨⟨#[99,117,114,114,101,110,116,95,98,97,116,116,101,114,121]⟩,2,aF,0⟩,⟨⟨#[98,97,116,116,101,114,121,95,114,101,109,97,105,110,105,110,103]⟩,1,aF,0⟩,⟨⟨#[100,114,111,112,95,114,97,116,101,95,99,111,109,109]⟩,2,aD,0⟩,⟨⟨#[101,114,114,111,114,115,95,99,111,109,109]⟩,2,aD,0⟩,⟨⟨#[101,114,114,111,114,115,95,99,111,117,110,116,49]⟩,2,aD,0⟩,⟨⟨#[101,114,114,111,114,115,95,99,111,117,110,116,50]⟩,2,aD,0⟩,⟨⟨#[101,114,114,111,114,115,95,99,111,117,110,116,51]⟩,2,aD,0⟩,⟨⟨#[101,114,114,111,114,115,95,99,111,117,110,116,52]⟩,2,aD,0⟩])
def vw:uV:=(⟨#[83,89,83,84,69,77,95,84,73,77,69]⟩,[⟨⟨#[116,105,109,101,95,117,110,105,120,95,117,115,101,99]⟩,8,aD,0⟩,⟨⟨#[116,105,109,101,95,98,111,111,116,95,109,115]⟩,4,aD,0⟩])
def wj:uV:=(⟨#[80,73,78,71]⟩,[⟨⟨#[116,105,109,101,95,117,115,101,99]⟩,8,aD,0⟩,⟨⟨#[115,101,113]⟩,4,aD,0⟩,⟨⟨#[116,97,114,103,101,116,95,115,121,115,116,101,109]⟩,1,aD,0⟩,⟨⟨#[116,97,114,103,101,116,95,99,111,109,112,111,110,101,110,116]⟩,1,aD,0⟩])
def X9:uV:=(⟨#[84,73,77,69,83,89,78,67]⟩,[⟨⟨#[116,99,49]⟩,8,aF,0⟩,⟨⟨#[116,115,49]⟩,8,aF,0⟩])
def Xy:uV:=(⟨#[80,79,87,69,82,95,83,84,65,84,85,83]⟩,[⟨⟨#[86,99,99]⟩,2,aD,0⟩,⟨⟨#[86,115,101,114,118,111]⟩,2,aD,0⟩,⟨⟨#[102,108,97,103,115]⟩,2,aD,0⟩])
def OT:uV:=(⟨#[71,80,83,95,82,65,87,95,73,78,84]⟩,[⟨⟨#[116,105,109,101,95,117,115,101,99]⟩,8,aD,0⟩,⟨⟨#[102,105,120,95,116,121,112,101]⟩,1,aD,0⟩,⟨⟨#[108,97,116]⟩,4,aF,0⟩,⟨⟨#[108,111,110]⟩,4,aF,0⟩,⟨⟨#[97,108,116]⟩,4,aF,0⟩,⟨⟨#[101,112,104]⟩,2,aD,0⟩,⟨⟨#[101,112,118]⟩,2,aD,0⟩,⟨⟨#[118,101,108]⟩,2,aD,0⟩,⟨⟨#[99,111,103]⟩,2,aD,0⟩,⟨⟨#[115,97,116,101,108,108,105,116,101,115,95,118,105,115,105,98,108,101]⟩,1,aD,0⟩])
def RF:uV:=(⟨#[71,80,83,95,83,84,65,84,85,83]⟩,[⟨⟨#[115,97,116,101,108,108,105,116,101,115,95,118,105,115,105,98,108,101]⟩,1,aD,0⟩,⟨⟨#[115,97,116,101,108,108,105,116,101,95,112,114,110]⟩,1,aD,20⟩,⟨⟨#[115,97,116,101,108,108,105,116,101,95,117,115,101,100]⟩,1,aD,20⟩,⟨⟨#[115,97,116,101,108,108,105,116,101,95,101,108,101,118,97,116,105,111,110]⟩,1,aD,20⟩,⟨⟨#[115,97,116,101,108,108,105,116,101,95,97,122,105,109,117,116,104]⟩,1,aD,20⟩,⟨⟨#[115,97,116,101,108,108,105,116,101,95,115,110,114]⟩,1,aD,20⟩])
def OY:uV:=(⟨#[83,67,65,76,69,68,95,73,77,85]⟩,[⟨⟨#[116,105,109,101,95,98,111,111,116,95,109,115]⟩,4,aD,0⟩,⟨⟨#[120,97,99,99]⟩,2,aF,0⟩,⟨⟨#[121,97,99,99]⟩,2,aF,0⟩,⟨⟨#[122,97,99,99]⟩,2,aF,0⟩,⟨⟨#[120,103,121,114,111]⟩,2,aF,0⟩,⟨⟨#[121,103,121,114,111]⟩,2,aF,0⟩,⟨⟨#[122,103,121,114,111]⟩,2,aF,0⟩,⟨⟨#[120,109,97,103]⟩,2,aF,0⟩,⟨⟨#[121,109,97,103]⟩,2,aF,0⟩,⟨⟨#[122,109,97,103]⟩,2,aF,0⟩])
def TG:uV:=(⟨#[82,65,87,95,73,77,85]⟩,[⟨⟨#[116,105,109,101,95,117,115,101,99]⟩,8,aD,0⟩,⟨⟨#[120,97,99,99]⟩,2,aF,0⟩,⟨⟨#[121,97,99,99]⟩,2,aF,0⟩,⟨⟨#[122,97,99,99]⟩,2,aF,0⟩,⟨⟨#[120,103,121,114,111]⟩,2,aF,0⟩,⟨⟨#[121,103,121,114,111]⟩,2,aF,0⟩,⟨⟨#[122,103,121,114,111]⟩,2,aF,0⟩,⟨⟨#[120,109,97,103]⟩,2,aF,0⟩,⟨⟨#[121,109,97,103]⟩,2,aF,0⟩,⟨⟨#[122,109,97,103]⟩,2,aF,0⟩])
def RM:uV:=(⟨#[82,65,87,95,80,82,69,83,83,85,82,69]⟩,[⟨⟨#[116,105,109,101,95,117,115,101,99]⟩,8,aD,0⟩,⟨⟨#[112,114,101,115,115,95,97,98,115]⟩,2,aF,0⟩,⟨⟨#[112,114,101,115,115,95,100,105,102,102,49]⟩,2,aF,0⟩,⟨⟨#[112,114,101,115,115,95,100,105,102,102,50]⟩,2,aF,0⟩,⟨⟨#[116,101,109,112,101,114,97,116,117,114,101]⟩,2,aF,0⟩])
def OP:uV:=(⟨#[71,76,79,66,65,76,95,80,79,83,73,84,73,79,78,95,73,78,84]⟩,[⟨⟨#[116,105,109,101,95,98,111,111,116,95,109,115]⟩,4,aD,0⟩,⟨⟨#[108,97,116]⟩,4,aF,0⟩,⟨⟨#[108,111,110]⟩,4,aF,0⟩,⟨⟨#[97,108,116]⟩,4,aF,0⟩,⟨⟨#[114,101,108,97,116,105,118,101,95,97,108,116]⟩,4,aF,0⟩,⟨⟨#[118,120]⟩,2,aF,0⟩,⟨⟨#[118,121]⟩,2,aF,0⟩,⟨⟨#[118,122]⟩,2,aF,0⟩,⟨⟨#[104,100,103]⟩,2,aD,0⟩])
def TL:uV:=(⟨#[82,67,95,67,72,65,78,78,69,76,83,95,82,65,87]⟩,[⟨⟨#[116,105,109,101,95,98,111,111,116,95,109,115]⟩,4,aD,0⟩,⟨⟨#[112,111,114,116]⟩,1,aD,0⟩,⟨⟨#[99,104,97,110,49,95,114,97,119]⟩,2,aD,0⟩,⟨⟨#[99,104,97,110,50,95,114,97,119]⟩,2,aD,0⟩,⟨⟨#[99,104,97,110,51,95,114,97,119]⟩,2,aD,0⟩,⟨⟨#[99,104,97,110,52,95,114,97,119]⟩,2,aD,0⟩,⟨⟨#[99,104,97,110,53,95,114,97,119]⟩,2,aD,0⟩,⟨⟨#[99,104,97,110,54,95,114,97,119]⟩,2,aD,0⟩,⟨⟨#[99,104,97,110,55,95,114,97,119]⟩,2,aD,0⟩,⟨⟨#[99,104,97,110,56,95,114,97,119]⟩,2,aD,0⟩,⟨⟨#[114,115,115,105]⟩,1,aD,0⟩])
def TF:uV:=(⟨#[83,69,82,86,79,95,79,85,84,80,85,84,95,82,65,87]⟩,[⟨⟨#[116,105,109,101,95,117,115,101,99]⟩,4,aD,0⟩,⟨⟨#[112,111,114,116]⟩,1,aD,0⟩,⟨⟨#[115,101,114,118,111,49,95,114,97,119]⟩,2,aD,0⟩,⟨⟨#[115,101,114,118,111,50,95,114,97,119]⟩,2,aD,0⟩,⟨⟨#[115,101,114,118,111,51,95,114,97,119]⟩,2,aD,0⟩,⟨⟨#[115,101,114,118,111,52,95,114,97,119]⟩,2,aD,0⟩,⟨⟨#[115,101,114,118,111,53,95,114,97,119]⟩,2,aD,0⟩,⟨⟨#[115,101,114,118,111,54,95,114,97,119]⟩,2,aD,0⟩,⟨⟨#[115,101,114,118,111,55,95,114,97,119]⟩,2,aD,0⟩,⟨⟨#[115,101,114,118,111,56,95,114,97,119]⟩,2,aD,0⟩])
def PB:uV:=(⟨#[77,73,83,83,73,79,78,95,67,85,82,82,69,78,84]⟩,[⟨⟨#[115,101,113]⟩,2,aD,0⟩])
def QW:uV:=(⟨#[77,73,83,83,73,79,78,95,67,79,85,78,84]⟩,[⟨⟨#[116,97,114,103,101,116,95,115,121,115,116,101,109]⟩,1,aD,0⟩,⟨⟨#[116,97,114,103,101,116,95,99,111,109,112,111,110,101,110,116]⟩,1,aD,0⟩,⟨⟨#[99,111,117,110,116]⟩,2,aD,0⟩])
def PC:uV:=(⟨#[77,73,83,83,73,79,78,95,65,67,75]⟩,[⟨⟨#[116,97,114,103,101,116,95,115,121,115,116,101,109]⟩,1,aD,0⟩,⟨⟨#[116,97,114,103,101,116,95,99,111,109,112,111,110,101,110,116]⟩,1,aD,0⟩,⟨⟨#[116,121,112,101]⟩,1,aD,0⟩])
def PQ:uV:=(⟨#[82,69,81,85,69,83,84,95,68,65,84,65,95,83,84,82,69,65,77]⟩,[⟨⟨#[116,97,114,103,101,116,95,115,121,115,116,101,109]⟩,1,aD,0⟩,⟨⟨#[116,97,114,103,101,116,95,99,111,109,112,111,110,101,110,116]⟩,1,aD,0⟩,⟨⟨#[114,101,113,95,115,116,114,101,97,109,95,105,100]⟩,1,aD,0⟩,⟨⟨#[114,101,113,95,109,101,115,115,97,103,101,95,114,97,116,101]⟩,2,aD,0⟩,⟨⟨#[115,116,97,114,116,95,115,116,111,112]⟩,1,aD,0⟩])
def OL:uV:=(⟨#[67,79,77,77,65,78,68,95,65,67,75]⟩,[⟨⟨#[99,111,109,109,97,110,100]⟩,2,aD,0⟩,⟨⟨#[114,101,115,117,108,116]⟩,1,aD,0⟩])
def Yp:uV:=(⟨#[65,84,84,73,84,85,68,69,95,87,79,82,68]⟩,[⟨⟨#[116,105,109,101,95,98,111,111,116,95,109,115]⟩,4,aD,0⟩,⟨⟨#[113,117,97,116,101,114,110,105,111,110]⟩,4,aD,0⟩,⟨⟨#[120,103,121,114,111]⟩,2,aF,0⟩,⟨⟨#[121,103,121,114,111]⟩,2,aF,0⟩,⟨⟨#[122,103,121,114,111]⟩,2,aF,0⟩])
def X6:uV:=(⟨#[70,73,76,84,69,82,95,83,84,65,84,69]⟩,[⟨⟨#[116,105,109,101,95,98,111,111,116,95,109,115]⟩,4,aD,0⟩,⟨⟨#[120,98,105,97,115]⟩,4,aF,0⟩,⟨⟨#[121,98,105,97,115]⟩,4,aF,0⟩,⟨⟨#[122,98,105,97,115]⟩,4,aF,0⟩,⟨⟨#[115,116,101,112,115]⟩,4,aD,0⟩,⟨⟨#[99,117,116,115]⟩,2,aD,0⟩])
def X0:uV:=(⟨#[76,79,71,95,66,76,79,67,75]⟩,[⟨⟨#[110,117,109,98,101,114]⟩,4,aD,0⟩,⟨⟨#[112,97,114,116]⟩,1,aD,0⟩,⟨⟨#[98,121,116,101,115]⟩,1,aD,64⟩])
def FD(id:Int):uV:=if id=0 then wg else if id=1 then wi else if id=2 then vw else if id=4 then wj else if id=111 then X9 else if id=125 then Xy else wY
def JW(id:Int):uV:=if id=24 then OT else if id=25 then RF else if id=26 then OY else if id=27 then TG else if id=28 then RM else if id=33 then OP else wY
def EW(id:Int):uV:=if id=35 then TL else if id=36 then TF else if id=42 then PB else if id=44 then QW else if id=47 then PC else if id=66 then PQ else if id=77 then OL else wY
def IY(id:Int):uV:=if id=200 then Yp else if id=201 then X6 else if id=202 then X0 else wY
def C3:List uV→uV
 | []=>wY
 |p::r=>if p.1=⟨#[]⟩ then C3 r else p
theorem M5: ∀(L:List uV) (k:Nat) (p:uV),L[k]?=aE p→¬p.1=⟨#[]⟩→(∀q∈L.take k,q.1=⟨#[]⟩)→C3 L=p
 | [],k,p,h,_,_=>by simp at h
 |q::L,0,p,h,hp,_=>by simp at h;subst h;unfold C3;rw[bX hp]
 |q::L,k+1,p,h,hp,ha=>by unfold C3;rw[bY (ha q (by simp))];exact M5 L k p (by simpa using h) hp (fun r hr=>ha r (by simp[hr]))
theorem Gn: ∀(L:List uV),(∀q∈L,q.1=⟨#[]⟩)→C3 L=wY
 | [],_=>rfl
 |q::L,h=>by unfold C3;rw[bY (h q cP)];exact Gn L (fun r hr=>h r (dV _ hr))
def mW(id:Int):uV:=C3 [FD id,JW id,EW id,IY id]
section
open Go.RowKit NumLaw
attribute [local go_sem] Addr.add_mid
abbrev lG:=@List.drop_eq_nil_of_le
abbrev pK:=@underlying375
def RdS(w:aS)(B:Nat)(A:Option aW)(n c:Nat)(L:List ByteArray):Prop:=RdR w B 1 A n c (L.map fun s=> [Value.string s])
theorem RdS.at_{w:aS}{B:Nat}{A:Option aW}{n c:Nat}{L:List ByteArray}(h:RdS w B A n c L){k:Nat}(hk:k<n): ∃g off s,A=aE ⟨g,off,J⟩∧g<B∧L[k]?=aE s∧w.cell? ⟨g,off+k,J⟩=aE (aH s):=by
 obtain⟨g,off,r,h1,h2,h3,h4,h5⟩:=RdR.at_ h hk;rw[eN] at h3
 cases hx:L[k]? with
 |none=>rw[hx] at h3;cases h3
 |some x=>
  rw[hx] at h3;injection h3 with h3;subst h3;have:=h5 0 _ D;rw[rC,Nat.add_zero] at this;exact⟨g,off,x,h1,h2,D,this⟩
theorem RdS.len{w:aS}{B:Nat}{A:Option aW}{n c:Nat}{L:List ByteArray}(h:RdS w B A n c L):L.length=n:=by have:=h.1;rwa[List.length_map] at this
def Kj(sz:Int)(sg:Bool)(L:List ByteArray):List PtT:=L.map fun s=>⟨s,sz,sg,0⟩
def wW(L:List PtT)(w:aS)(e:aX)(w':aS):Prop:=
 ∃(A:Option aW) (n c:Nat),e=aJ (aL A n c)∧n=L.length∧w'.ownsRow w.heap.size 448 4 (aL A n c) n (L.map pH).flatten∧aV w.heap.size w w'
def jS(p:uV)(w:aS)(e:aX)(w':aS):Prop:=
 ∃(A:Option aW) (n c:Nat),e=aJ (aM #[aH p.1,aL A n c])∧RdP w' w'.heap.size A n c p.2∧aV w.heap.size w w'
theorem No:(Tryz.prog.info? 448).map (fun i=>(i.zero,i.size,i.bytes))=aE (aE (aM #[aH ⟨#[]⟩,O Y 0,aG aD,O Y 0]),4,40):=by kernel_rfl
theorem QX(L:List PtT)(p:PtT):(L.map pH).flatten++pH p=((L++ [p]).map pH).flatten:=by simp
theorem QJ(L:List PtT): ∀u∈(L.map pH).flatten,u.oneCell'=aF:=fun u hu=>by
 obtain⟨r,hr,hu⟩:=List.mem_flatten.1 hu;obtain⟨p,_,rfl⟩:=List.mem_map.1 hr;exact Eg p u hu
theorem tJ(sz:Int)(sg:Bool)(A:Option aW)(n c:Nat)(L:List ByteArray)(w:aS)(h:RdS w w.heap.size A n c L)(hn:n≤1000):
  aU bH 365 #[O Y sz,aG sg,aL A n c] w (wW (Kj sz sg L) w):=by
 have oJ:=h.len;have hmx:=h.2.2.2.1;have hle:=h.2.2.1;unfold bB at hmx;obtain⟨i1,As⟩:=eW No;have Hi1:=bK As;have Hll:=bK oJ;clear oJ As;go_enter func365,ntmps365;go_wp2_with fail;go_loopw [7,12] (fun o i wr=> ∃(k c3:Nat) (A3:Option aW),k≤n∧i=O Y k∧o=aL A3 k c3∧aV w.heap.size w wr∧wr.ownsRow w.heap.size 448 4 (aL A3 k c3) k ((Kj sz sg (L.take k)).map pH).flatten) (fun _ i _=>n-(bE i).toNat);case atStart=>exact⟨0,0,J,by omega,D,D,bP _ _,dF _ _ _ _⟩
 case round=>
  obtain⟨k,c3,A3,hk,rfl,rfl,hb,mM⟩:=hrel;by_cases fF:k<n
  ·have z7:(k:Int)<(n:Int):=by omega
   obtain⟨g,off,s,rfl,hg,hx,hc⟩:=RdS.at_ h fF;have hcw:=(hb.cell (p:=⟨g,off+k,J⟩) hg).trans hc;have Htx:=bK (fD hx);have hbn:aV wr.heap.size wr (wr.alloc (aI #[aH s,O Y sz,aG sg,O Y 0] 448)):=(bP _ _).alloc (bM _) _;have hrd:Rd _ _ 4 _ 1 1 (pH ⟨s,sz,sg,0⟩):=yX (sQ (size:=4) (e:=448) wr [pH ⟨s,sz,sg,0⟩] #[aH s,O Y sz,aG sg,O Y 0] D (by intro r hr;rw[List.mem_singleton.1 hr];rfl) (by simp[bB]) 1 D) (by omega);have hb4:=eI hb hbn;have vD:=jK mM hbn (bM _);clear hx hc hb mM hbn;go_wp2_with(at_builtin;refine rP ?_);generalize(wr.alloc (aI #[aH s,O Y sz,aG sg,O Y 0] 448))=w4 at*;refine eL (iY (base:=w.heap.size) (n:=k) pK Hi1.out D (by omega) vD D hrd D (Eg _) (k:=k+1) (ys:=((Kj sz sg (L.take (k+1))).map pH).flatten) D (by rw[Htx.out];unfold Kj;rw[gZ];exact QX _ _) (by unfold bB;omega) (by omega) hb4.size ?_);clear hcw;intro A5 c5 w5 rA hgr zE;have hb5:=Below.grown hb4 hgr hb4.size (fun j hj=>(eU vD hj).1);clear hgr zE vD hrd hb4;go_wp2;go_roundw;case rel=>exact⟨k+1,c5,A5,by omega,by go_num,D,hb5,rA⟩
   case measure=>simp[bE];omega
  ·obtain rfl:k=n:=by omega
   rw[List.take_of_length_le (by rw[Hll.out];exact bM _)] at mM;go_wp2;go_ret;exact⟨A3,k,c3,D,by unfold Kj;rw[List.length_map,Hll.out],mM,hb⟩
theorem rT(A:Option aW)(n c:Nat)(L:List ByteArray)(w:aS)(h:RdS w w.heap.size A n c L)(hn:n≤1000):
  aU bH 292 #[aL A n c] w (wW (Kj 1 aD L) w):=by
 go_enter func292,ntmps292;go_wp2_with fail;go_fit(tJ 1 aD A n c L w h hn);unfold wW;rintro e w1 ⟨A1,n1,c1,rfl,hl,own,hb⟩;have Hl:=bK hl;clear hl;go_wp2;go_ret;exact⟨A1,n1,c1,D,Hl.out,own,hb⟩
theorem sP(A:Option aW)(n c:Nat)(L:List ByteArray)(w:aS)(h:RdS w w.heap.size A n c L)(hn:n≤1000):
  aU bH 294 #[aL A n c] w (wW (Kj 2 aD L) w):=by
 go_enter func294,ntmps294;go_wp2_with fail;go_fit(tJ 2 aD A n c L w h hn);unfold wW;rintro e w1 ⟨A1,n1,c1,rfl,hl,own,hb⟩;have Hl:=bK hl;clear hl;go_wp2;go_ret;exact⟨A1,n1,c1,D,Hl.out,own,hb⟩
theorem sN(A:Option aW)(n c:Nat)(L:List ByteArray)(w:aS)(h:RdS w w.heap.size A n c L)(hn:n≤1000):
  aU bH 293 #[aL A n c] w (wW (Kj 4 aD L) w):=by
 go_enter func293,ntmps293;go_wp2_with fail;go_fit(tJ 4 aD A n c L w h hn);unfold wW;rintro e w1 ⟨A1,n1,c1,rfl,hl,own,hb⟩;have Hl:=bK hl;clear hl;go_wp2;go_ret;exact⟨A1,n1,c1,D,Hl.out,own,hb⟩
theorem Dr(A:Option aW)(n c:Nat)(L:List ByteArray)(w:aS)(h:RdS w w.heap.size A n c L)(hn:n≤1000):
  aU bH 297 #[aL A n c] w (wW (Kj 8 aD L) w):=by
 go_enter func297,ntmps297;go_wp2_with fail;go_fit(tJ 8 aD A n c L w h hn);unfold wW;rintro e w1 ⟨A1,n1,c1,rfl,hl,own,hb⟩;have Hl:=bK hl;clear hl;go_wp2;go_ret;exact⟨A1,n1,c1,D,Hl.out,own,hb⟩
theorem ZV(A:Option aW)(n c:Nat)(L:List ByteArray)(w:aS)(h:RdS w w.heap.size A n c L)(hn:n≤1000):
  aU bH 296 #[aL A n c] w (wW (Kj 1 aF L) w):=by
 go_enter func296,ntmps296;go_wp2_with fail;go_fit(tJ 1 aF A n c L w h hn);unfold wW;rintro e w1 ⟨A1,n1,c1,rfl,hl,own,hb⟩;have Hl:=bK hl;clear hl;go_wp2;go_ret;exact⟨A1,n1,c1,D,Hl.out,own,hb⟩
theorem Dv(A:Option aW)(n c:Nat)(L:List ByteArray)(w:aS)(h:RdS w w.heap.size A n c L)(hn:n≤1000):
  aU bH 295 #[aL A n c] w (wW (Kj 2 aF L) w):=by
 go_enter func295,ntmps295;go_wp2_with fail;go_fit(tJ 2 aF A n c L w h hn);unfold wW;rintro e w1 ⟨A1,n1,c1,rfl,hl,own,hb⟩;have Hl:=bK hl;clear hl;go_wp2;go_ret;exact⟨A1,n1,c1,D,Hl.out,own,hb⟩
theorem On(A:Option aW)(n c:Nat)(L:List ByteArray)(w:aS)(h:RdS w w.heap.size A n c L)(hn:n≤1000):
  aU bH 299 #[aL A n c] w (wW (Kj 4 aF L) w):=by
 go_enter func299,ntmps299;go_wp2_with fail;go_fit(tJ 4 aF A n c L w h hn);unfold wW;rintro e w1 ⟨A1,n1,c1,rfl,hl,own,hb⟩;have Hl:=bK hl;clear hl;go_wp2;go_ret;exact⟨A1,n1,c1,D,Hl.out,own,hb⟩
theorem PY(A:Option aW)(n c:Nat)(L:List ByteArray)(w:aS)(h:RdS w w.heap.size A n c L)(hn:n≤1000):
  aU bH 298 #[aL A n c] w (wW (Kj 8 aF L) w):=by
 go_enter func298,ntmps298;go_wp2_with fail;go_fit(tJ 8 aF A n c L w h hn);unfold wW;rintro e w1 ⟨A1,n1,c1,rfl,hl,own,hb⟩;have Hl:=bK hl;clear hl;go_wp2;go_ret;exact⟨A1,n1,c1,D,Hl.out,own,hb⟩
theorem YN{w:aS}{base:Nat}{e:aY}{size n:Nat}{A:Option aW}{c:Nat}{xs:List aT}(h:w.ownsRow base e size (aL A n c) n xs)(hn:0<n): ∃g,A=aE ⟨g,0,J⟩∧base≤g:=by
 obtain⟨g,cap,hv,hg,_⟩:=h.form hn;injection hv with h1 _ _;exact⟨g,h1,hg⟩
def Nx(m:Int)(p:PtT):PtT:= { p with mn:=m }
theorem CA(m:Int)(A B:List PtT)(p:PtT)(k:Nat)(hk:A.length=k):((A++p::B).map pH).flatten.set (k*4+3) (O Y m)=(((A++ [Nx m p])++B).map pH).flatten:=by
 have hl:((A.map pH).flatten).length=k*4:=by rw[xE _ (Yh A),List.length_map,hk]
 rw[gZ,rV,eE,kG,List.set_append_right (h:=by omega),hl,show k*4+3-k*4=3 by omega];simp[pH,Nx]
theorem Z0(m:Int)(A:Option aW)(n c:Nat)(L:List ByteArray)(w:aS)(h:RdS w w.heap.size A n c L)(hn:n≤1000):
  aU bH 300 #[O Y m,aL A n c] w (wW ((Kj 1 aD L).map (Nx m)) w):=by
 have ru:=rT A n c L w h hn;have hML:(Kj 1 aD L).length≤1000:=by unfold Kj;rw[List.length_map,h.len];exact hn
 generalize Kj 1 aD L=M at*;have Hu8:=bK ru;clear ru;go_enter func300,ntmps300;go_wp2_with fail;go_fit Hu8.out;unfold wW;rintro e w1 ⟨A1,n1,c1,rfl,hl,own,hb⟩;have wB:n1≤1000:=by rw[hl];exact hML
 have Hl:=bK hl;clear hl Hu8;go_wp2_with fail;go_loopw [11] (fun i wr=> ∃(k:Nat),k≤n1∧i=O Y k∧aV w.heap.size w wr∧wr.ownsRow w.heap.size 448 4 (aL A1 n1 c1) n1 ((((M.take k).map (Nx m))++M.drop k).map pH).flatten) (fun i _=>n1-(bE i).toNat);case atStart=>exact⟨0,by omega,D,hb,by simpa using own⟩
 case round=>
  clear own hb w1;obtain⟨k,hk,rfl,hb,own⟩:=hrel;by_cases fF:k<n1
  ·have z7:(k:Int)<(n1:Int):=by omega
   have hkM:k<M.length:=by rw[←Hl.out];exact fF
   have hg:=YN own (by omega);obtain⟨g,rfl,XG⟩:=hg;have hfz:wr.frozen? ⟨g,k*4+3,J⟩=aD:=own.frozenAt (k*4+3);have hcl: ∃u,wr.cell? ⟨g,k*4+3,J⟩=aE u:=by have:=own.cellAt (k*4+3) (by omega);rw[cF (by rw[own.1];omega)] at this;exact⟨_,this⟩
   obtain⟨u,hcl⟩:=hcl;have hst:=own.stored (k*4+3) (Value.int Y m);have hdr:M.drop k=M[k]::M.drop (k+1):=List.drop_eq_getElem_cons hkM;have P6:=CA m ((M.take k).map (Nx m)) (M.drop (k+1)) M[k] k (by rw[List.length_map,fH];omega);rw[←hdr] at P6;rw[P6] at hst;have htk:(M.take k).map (Nx m)++ [Nx m M[k]]=(M.take (k+1)).map (Nx m):=by rw[fD (cF hkM),gZ];rfl
   rw[htk] at hst;have oW:=hst.1;have hb':=hb.setCell (p:=⟨g,k*4+3,J⟩) XG (Value.int Y m);clear hdr P6 htk hst own hkM;go_wp2;go_roundw;case rel=>exact⟨k+1,by omega,by go_num,hb',oW⟩
   case measure=>simp[bE];omega
  ·obtain rfl:k=n1:=by omega
   rw[List.take_of_length_le (by rw[←Hl.out];exact bM _),lG (by rw[←Hl.out];exact bM _),List.append_nil] at own;go_wp2;go_ret;exact⟨A1,k,c1,D,by rw[List.length_map];exact Hl.out,own,hb⟩
theorem U5{w:aS}(g:Nat)(cs:Array aT):Aw (fun k=>k=g) w (w.setRow g cs):=
 ⟨setRow_os w _ _,setRow_tape w _ _,setRow_output w _ _,by rw[setRow_size];exact bM _,fun k _ hu=>setRow_other w _ k _ hu⟩
structure RwT where
 A:Option aW
 n:Nat
 c:Nat
 L:List PtT
def rwC(r:RwT):List aT:= [aL r.A r.n r.c]
def zo(w:aS)(B:Nat)(A:Option aW)(n c:Nat)(T:List RwT):Prop:=RdR w B 1 A n c (T.map rwC)∧∀r∈T,RdP w B r.A r.n r.c r.L∧r.n≤100
theorem BJ(nm:ByteArray)(A:Option aW)(n c:Nat)(T:List RwT)(w:aS)(h:zo w w.heap.size A n c T)(hn:n≤100):
  aU bH 291 #[aH nm,aL A n c] w (jS (nm,T.flatMap RwT.L) w):=by
 obtain⟨h,hT⟩:=h;have oJ:T.length=n:=by have:=h.1;rwa[List.length_map] at this
 have hmx:=h.2.2.2.1;have hle:=h.2.2.1;unfold bB at hmx;obtain⟨i1,As⟩:=eW No;have Hi1:=bK As;have Hll:=bK oJ;obtain⟨a0,a1,hs,hb⟩:=yZ w (aI #[aH ⟨#[]⟩,aL J 0 0] 377) (aI #[aH nm,aL J 0 0] 377);clear oJ As;go_enter func291,ntmps291;go_wp2_with fail;go_loopw [12] (fun i wr=> ∃(k n3 c3:Nat) (A3:Option aW),k≤n∧n3≤100*k∧i=O Y k∧wr.heap[w.heap.size]?=aE (aI #[aH ⟨#[]⟩,aL J 0 0] 377)∧wr.heap[w.heap.size+1]?=aE (aI #[aH nm,aL A3 n3 c3] 377)∧aV w.heap.size w wr∧wr.ownsRow (w.heap.size+2) 448 4 (aL A3 n3 c3) n3 (((T.take k).flatMap RwT.L).map pH).flatten∧Hid (((T.take k).flatMap RwT.L).length=n3)) (fun i _=>n-(bE i).toNat);case atStart=>exact⟨0,0,0,J,by omega,by omega,D,a0,a1,hb,dF _ _ _ _,bK D⟩
 case round=>
  clear a0 a1 hb hs;obtain⟨k,n3,c3,A3,hk,EI,rfl,a0,a1,hb,mM,Hl3⟩:=hrel;have k1:=bL (i:=1) (v:=aL A3 n3 c3) a1 D;have LZ:=bT a1;by_cases fF:k<n
  ·have z7:(k:Int)<(n:Int):=by omega
   obtain⟨g,off,r,hA,hg,hx,Ce,hr⟩:=RdR.at_ h fF;rw[eN] at hx;obtain⟨x,xj⟩: ∃x,T[k]?=aE x:=⟨_,cF (by rw[Hll.out];exact fF)⟩;rw[xj] at hx;injection hx with hx;subst hx;subst hA;obtain⟨hxr,aFg⟩:=hT x (dD xj);have WS:=hxr.len;have hc:=(hb.cell (p:=⟨g,off+k*1+0,J⟩) hg).trans (hr 0 _ D);rw[rC,Nat.add_zero] at hc;have Hts:=bK (fD xj);have hxw:RdP wr wr.heap.size x.A x.n x.c x.L:=pQ (tX hxr hb) hb.size;have Hfl:=bK (show(((T.take k).flatMap RwT.L).map pH).flatten++(x.L.map pH).flatten=(((T.take (k+1)).flatMap RwT.L).map pH).flatten by rw[Hts.out];simp);have Hl4:=bK (show((T.take (k+1)).flatMap RwT.L).length=n3+x.n by rw[Hts.out,oM,cZ,Hl3.out];simp[WS]);have DT: ∀j,(Value.slice A3 n3 c3).ownBlock=aE j→w.heap.size+2≤j:=fun j hj=>(eU mM hj).1;clear hr Ce xj hxr WS;go_wp2_with(at_builtin;refine rP ?_);refine eL (iY (base:=w.heap.size+2) (n:=n3) pK Hi1.out D (by omega) mM D (yX hxw (by omega)) D (QJ _) (k:=n3+x.n) D Hfl.out (by unfold bB;omega) (by omega) (by omega) ?_);intro A5 c5 w5 rA hgr zE;have haw:=mA hgr;have b0:=haw.keep a0 (fun hu=>by have:=DT _ hu;omega);have b1:=haw.keep a1 (fun hu=>by have:=DT _ hu;omega);have hb5:=Below.grown hb hgr hb.size (fun j hj=>by have:=DT j hj;omega);have s1:=bL (i:=1) (v:=aL A3 n3 c3) b1 D;have s2:=bZ (i:=1) b1;have hA8:Aw (fun k=>k=w.heap.size+1) w5 (w5.setCell ⟨w.heap.size+1,1,J⟩ (aL A5 (n3+x.n) c5)):=(cY _ _).set _ D;have m0:=hA8.keep b0 (by omega);have m1:=cN (i:=1) b1 (aL A5 (n3+x.n) c5);have m3:=iZ rA hA8 (fun j hj hu=>by have:=(eU rA hj).1;omega);have m5:=hb5.setCell (p:=⟨w.heap.size+1,1,J⟩) (by show w.heap.size≤w.heap.size+1;omega) (aL A5 (n3+x.n) c5);clear hgr zE mM hxw haw b0 rA hA8 hb5 hc k1 a0 a1;go_wp2;go_roundw;case rel=>exact⟨k+1,n3+x.n,c5,A5,by omega,by omega,by go_num,m0,m1,m5,m3,Hl4⟩
   case measure=>simp[bE];omega
  ·obtain rfl:k=n:=by omega
   have htk:T.take k=T:=List.take_of_length_le (by rw[Hll.out];exact bM _);rw[htk] at mM Hl3;have k0:=bL (i:=0) (v:=aH nm) a1 D;have hb':=below_setRow hb (bM _) (#[aH nm,aL A3 n3 c3]:Array aT);have b0:=setRow_heap _ _ _ (#[aH nm,aL A3 n3 c3]:Array aT) _ _ a0;have z8:=iZ mM (U5 w.heap.size (#[aH nm,aL A3 n3 c3]:Array aT)) (fun j hj hu=>by have:=(eU mM hj).1;omega);go_wp2_with(first|(with_reducible refine pF 377 ?_));refine eL (wpList_store_row D _ _ _ D w.heap.size #[aH nm,aL A3 n3 c3] D D _ _ a0 (by kernel_rfl) D (by kernel_rfl) ?_);generalize(wr.setRow w.heap.size #[aH nm,aL A3 n3 c3])=w9 at*;have e0:=bL (i:=0) (v:=aH nm) b0 D;have e1:=bL (i:=1) (v:=aL A3 n3 c3) b0 D;have xk:RdP w9 w9.heap.size A3 n3 c3 (T.flatMap RwT.L):=RdP.own z8 Hl3.out;clear mM z8 a0 a1 k0 k1 b0 hb;go_wp2;refine bR (v:=aM #[aH nm,aL A3 n3 c3]) (by simp[results,go_sem,e0,e1]) D ⟨A3,n3,c3,D,xk,hb'⟩
theorem vR(t:aY){P:aZ}{w:aS}{ops:Array bA}{rest:List bA}{a:Act}{Q:Exit→Act→aS→Prop}{d:Option Tmp}{ty:aY}{pos:String}{af:Array Edge}
  (h:Stop (wpList P ops Q (⟨d,.build t #[],ty,pos,af,J⟩::rest) a w)):wpList P ops Q (⟨d,.build t #[],ty,pos,af,J⟩::rest) a w:=h
theorem Ys{w:aS}{A:Option aW}{n c g:Nat}{L:List PtT}{t:aY}{x y:aT}(h:RdP w w.heap.size A n c L)(hg:w.heap[g]?=aE (aI #[x,y] t))(cs':Array aT):RdP (w.setRow g cs') (w.setRow g cs').heap.size A n c L:=by
 unfold RdP at h ⊢;refine⟨h.1,h.2.1,h.2.2.1,h.2.2.2.1,fun hn=> ?_⟩;obtain⟨g',off,e,fF,hr⟩:=h.2.2.2.2 hn
 have hne:g'≠g:=fun he=>by
  subst he;have hl:0<(L.map pH).length:=by have:=h.1;omega
  have P4:=hr 0 _ (cF hl);have h14:=h.2.1 _ (oZ hl);have h13:=P4 3 _ (cF (by rw[h14];decide));simp[World.cell?,hg] at h13
 refine⟨g',off,e,by rw[setRow_size];exact fF,fun k r hk j v hv=> ?_⟩;have:=hr k r hk j v hv;rw[World.cell?] at this ⊢;rw[show(⟨g',off+k*4+j,J⟩:aW).block=g' from D] at this ⊢;rw[setRow_other w _ g' _ hne];exact this
theorem I8(w:aS)(L:List ByteArray)(cs:Array aT)(Co:cs=(L.map Value.string).toArray)(n:Nat)(hn:L.length=n)(hm:n≤1000):RdS (w.alloc (aI cs 9)) (w.alloc (aI cs 9)).heap.size (aE ⟨w.heap.size,0,J⟩) n n L:=by
 have h:=sQ (size:=1) (e:=9) w (L.map fun s=> [Value.string s]) cs (by
  rw[Co];congr 1
  induction L generalizing cs n with
  |nil=>rfl
  |cons s L ih=>exact gD (List.cons (Value.string s)) (ih _ D _ D (by simp at hn;omega))) (fun r hr=>by obtain⟨s,_,rfl⟩:=List.mem_map.1 hr;rfl) (by rw[List.length_map,hn];unfold bB;omega) n (by rw[List.length_map,hn])
 have e:(w.alloc (aI cs 9)).heap.size=w.heap.size+1:=cL _ _;unfold RdS;rw[e];exact h
theorem Ow(w:aS):aU bH 301 #[] w (wW (Kj 2 aF [⟨#[120,97,99,99]⟩,⟨#[121,97,99,99]⟩,⟨#[122,97,99,99]⟩,⟨#[120,103,121,114,111]⟩,⟨#[121,103,121,114,111]⟩,⟨#[122,103,121,114,111]⟩,⟨#[120,109,97,103]⟩,⟨#[121,109,97,103]⟩,⟨#[122,109,97,103]⟩]) w):=by
 have hS:=I8 w [⟨#[120,97,99,99]⟩,⟨#[121,97,99,99]⟩,⟨#[122,97,99,99]⟩,⟨#[120,103,121,114,111]⟩,⟨#[121,103,121,114,111]⟩,⟨#[122,103,121,114,111]⟩,⟨#[120,109,97,103]⟩,⟨#[121,109,97,103]⟩,⟨#[122,109,97,103]⟩] #[aH ⟨#[120,97,99,99]⟩,aH ⟨#[121,97,99,99]⟩,aH ⟨#[122,97,99,99]⟩,aH ⟨#[120,103,121,114,111]⟩,aH ⟨#[121,103,121,114,111]⟩,aH ⟨#[122,103,121,114,111]⟩,aH ⟨#[120,109,97,103]⟩,aH ⟨#[121,109,97,103]⟩,aH ⟨#[122,109,97,103]⟩] D 9 D (by omega);have hbs:=(bP w.heap.size w).alloc (bM _) (aI #[aH ⟨#[120,97,99,99]⟩,aH ⟨#[121,97,99,99]⟩,aH ⟨#[122,97,99,99]⟩,aH ⟨#[120,103,121,114,111]⟩,aH ⟨#[121,103,121,114,111]⟩,aH ⟨#[122,103,121,114,111]⟩,aH ⟨#[120,109,97,103]⟩,aH ⟨#[121,109,97,103]⟩,aH ⟨#[122,109,97,103]⟩] 9);have HS:=bK hS;clear hS;go_enter func301,ntmps301;go_wp2_with fail;go_fit(Dv (aE ⟨w.heap.size,0,J⟩) 9 9 [⟨#[120,97,99,99]⟩,⟨#[121,97,99,99]⟩,⟨#[122,97,99,99]⟩,⟨#[120,103,121,114,111]⟩,⟨#[121,103,121,114,111]⟩,⟨#[122,103,121,114,111]⟩,⟨#[120,109,97,103]⟩,⟨#[121,109,97,103]⟩,⟨#[122,109,97,103]⟩] _ HS.out (by omega));unfold wW;rintro e w1 ⟨A1,n1,c1,rfl,hl,own,hb⟩;have aB3:=zJ own hbs.size;have hb':=eI hbs hb;have Hl:=bK hl;clear own hb HS hbs hl;go_wp2;go_ret;exact⟨A1,n1,c1,D,Hl.out,aB3,hb'⟩
def Sp(cs:Array aT):List ByteArray:=cs.toList.map fun v=>match v with|aH s=>s|_=>⟨#[]⟩
def FmW(w v:aS)(T:List RwT):Prop:=v.heap[w.heap.size]?=aE (aI #[aH ⟨#[]⟩,aL J 0 0] 377)∧aV w.heap.size w v∧∀r∈T,RdP v v.heap.size r.A r.n r.c r.L∧r.n≤100
theorem yA(w:aS):FmW w (w.alloc (aI #[aH ⟨#[]⟩,aL J 0 0] 377)) []:=⟨bS w _,(bP _ _).alloc (bM _) _,fun r hr=>by cases hr⟩
theorem FmW.nx{w v v':aS}{T:List RwT}(h:FmW w v T)(hb:aV v.heap.size v v'):FmW w v' T:=
 ⟨bV h.1 hb (bT h.1),eI h.2.1 hb,fun r hr=>⟨yW (h.2.2 r hr).1 hb,(h.2.2 r hr).2⟩⟩
theorem FmW.add{w v:aS}{T:List RwT}{A:Option aW}{n c:Nat}{L:List PtT}(h:FmW w v T)(hr:RdP v v.heap.size A n c L)(hn:n≤100):FmW w v (T++ [⟨A,n,c,L⟩]):=
 ⟨h.1,h.2.1,fun r hm=>by
  rcases List.mem_append.1 hm with hm|hm
  ·exact h.2.2 r hm
  ·rw[List.mem_singleton.1 hm];exact⟨hr,hn⟩⟩
theorem eY{sz:Int}{sg:Bool}(L:List ByteArray):(Kj sz sg L).length=L.length:=by unfold Kj;rw[List.length_map]
def Xs(w:aS)(T:List RwT)(n:Nat)(M:List PtT)(e:aX)(v':aS):Prop:= ∃A c,e=aJ (aL A n c)∧Hid (FmW w v' (T++ [⟨A,n,c,M⟩]))
theorem Ya{w v v':aS}{T:List RwT}{M:List PtT}{n:Nat}{cs:Array aT}{e:aX}(H:FmW w v T)(hM:M.length=n)(hm:n≤100)(h:wW M (v.alloc (aI cs 9)) e v'):Xs w T n M e v':=by
 obtain⟨A,m,c,rfl,hl,own,hb⟩:=h;obtain rfl:m=n:=by rw[hl,hM]
 exact⟨A,c,D,bK ((H.nx (eI ((bP v.heap.size v).alloc (bM _) _) hb)).add (RdP.own own hM) hm)⟩
theorem lY{F:Nat}{mk:List ByteArray→List PtT}(hF: ∀(A:Option aW) (n c:Nat) (L:List ByteArray) (w:aS),RdS w w.heap.size A n c L→n≤1000→aU bH F #[aL A n c] w (wW (mk L) w))(CU: ∀L,(mk L).length=L.length)
  {w v:aS} {T:List RwT} (H:FmW w v T) {cs:Array aT} {n g:Nat} (hg:g=v.heap.size:=by first|exact D|exact(cL _ _).symm) (Co:cs=((Sp cs).map Value.string).toArray:=by exact D) (hn:(Sp cs).length=n:=by exact D) (hm:n≤100:=by omega):
  aU bH F #[aL (aE ⟨g,0,J⟩) n n] (v.alloc (aI cs 9)) (Xs w T n (mk (Sp cs))):=by
 subst hg;exact(hF _ n n _ _ (I8 v (Sp cs) cs Co n hn (by omega)) (by omega)).mono fun e v' h=>Ya H (by rw[CU,hn]) hm h
theorem lv(m:Int){w v:aS}{T:List RwT}(H:FmW w v T){cs:Array aT}{n g:Nat}(hg:g=v.heap.size:=by first|exact D|exact(cL _ _).symm)(Co:cs=((Sp cs).map Value.string).toArray:=by exact D)(hn:(Sp cs).length=n:=by exact D)(hm:n≤100:=by omega):
  aU bH 300 #[O Y m,aL (aE ⟨g,0,J⟩) n n] (v.alloc (aI cs 9)) (Xs w T n ((Kj 1 aD (Sp cs)).map (Nx m))):=by
 subst hg;exact(Z0 m _ n n _ _ (I8 v (Sp cs) cs Co n hn (by omega)) (by omega)).mono fun e v' h=>Ya H (by rw[List.length_map,eY,hn]) hm h
theorem oe{w v:aS}{T:List RwT}(H:FmW w v T):aU bH 301 #[] v (Xs w T 9 (Kj 2 aF [⟨#[120,97,99,99]⟩,⟨#[121,97,99,99]⟩,⟨#[122,97,99,99]⟩,⟨#[120,103,121,114,111]⟩,⟨#[121,103,121,114,111]⟩,⟨#[122,103,121,114,111]⟩,⟨#[120,109,97,103]⟩,⟨#[121,109,97,103]⟩,⟨#[122,109,97,103]⟩])):=
 (Ow v).mono fun e v' h=>by obtain⟨A,m,c,rfl,hl,own,hb⟩:=h;obtain rfl:m=9:=hl;exact⟨A,c,D,bK ((H.nx hb).add (RdP.own own D) (by omega))⟩
def na(w:aS)(p:uV)(nm:ByteArray)(e:aX)(v':aS):Prop:= ∃A n c,e=aJ (aM #[aH nm,aL A n c])∧(Hid (RdP v' v'.heap.size A n c p.2∧p.1=nm))∧v'.heap[w.heap.size]?=aE (aI #[aH ⟨#[]⟩,aL J 0 0] 377)∧aV w.heap.size w v'
theorem Ki{w v:aS}{T:List RwT}(H:FmW w v T){p:uV}{nm:ByteArray}{cs:Array aT}{n g:Nat}(hg:g=v.heap.size:=by first|exact D|exact(cL _ _).symm)(Co:cs=(T.map fun r=>Value.slice r.A r.n r.c).toArray:=by exact D)(hn:T.length=n:=by exact D)(hm:n≤100:=by omega)(hp:(nm,T.flatMap RwT.L)=p:=by kernel_rfl):
  aU bH 291 #[aH nm,aL (aE ⟨g,0,J⟩) n n] (v.alloc (aI cs 375)) (na w p nm):=by
 subst hg hp hn;have hbs:=(bP v.heap.size v).alloc (bM _) (aI cs 375);have H2:=H.nx hbs;have iJ:(v.alloc (aI cs 375)).heap.size=v.heap.size+1:=cL _ _
 have DU:=sQ (size:=1) (e:=375) v (T.map rwC) cs (by
  rw[Co];congr 1;clear H H2 Co hm hbs iJ
  induction T with
  |nil=>rfl
  |cons r T ih=>exact gD (List.cons _) ih) (by intro r hr;obtain⟨f,_,rfl⟩:=List.mem_map.1 hr;rfl) (by rw[List.length_map];unfold bB;omega) T.length (by rw[List.length_map])
 rw[←iJ] at DU;refine(BJ nm _ T.length T.length T _ ⟨DU,H2.2.2⟩ hm).mono fun e v' h=> ?_;obtain⟨A,n,c,rfl,hr,hb⟩:=h;have H3:=H2.nx hb;exact⟨A,n,c,D,bK ⟨hr,D⟩,H3.1,H3.2.1⟩
theorem fG{P:aZ}{fn:Func}{p:Tmp}{ty:aY}(h:fn.results= #[.cell p ty])(tmps:Array aT)(w:aS)(g:Nat)(t:aY)(cs:Array aT)(fr:Nat × Nat)(d:TypeDesc)
  (hp:tmps.getD p undef=aK (aE ⟨g,0,J⟩)) (hg:w.heap[g]?=aE (aI cs t fr))
  (hu:P.underlying ty=aE d) (hd:(match d with| .struct _| .array _ _=>aF|_=>aD)=aF) (hi:(P.info? ty).map (·.size)=aE cs.size):
  (results fn tmps).run P w= .ok (.agg cs) w:=by
 have yC:tmps[p]?.getD undef=aK (aE ⟨g,0,J⟩):=by simpa using hp
 simp[results,h,yC,asAddr,mL w g t ty cs fr d hg hu hd hi]
theorem rQ{w v:aS}{p:uV}{nm:ByteArray}{A:Option aW}{n c:Nat}(hr:Hid (RdP v v.heap.size A n c p.2∧p.1=nm))(h0:v.heap[w.heap.size]?=aE (aI #[aH ⟨#[]⟩,aL J 0 0] 377))(hb:aV w.heap.size w v):jS p w (aJ (aM #[aH nm,aL A n c])) (v.setRow w.heap.size #[aH nm,aL A n c]):=by
 obtain⟨hr2,rfl⟩:=hr.out;exact⟨A,n,c,D,Ys hr2 h0 _,below_setRow hb (bM _) _⟩
end
section
set_option maxRecDepth 20000
set_option maxHeartbeats 4000000
open Go.RowKit NumLaw
attribute [local go_sem] Addr.add_mid
abbrev dW:=@beq_eq_false_iff_ne
abbrev pV:=@ntmps248
abbrev rM:=@func248
theorem PA(w:aS):aU bH 248 #[O Y 0] w (jS wg w):=by
 have H0:=bK (yA w);go_enter rM,pV;go_wp2_with fail;go_fit(lY rT eY H0.out);rintro e v1 ⟨A1,c1,rfl,H1⟩;go_wp2_with fail;go_fit(lY sN eY H1.out);rintro e v2 ⟨A2,c2,rfl,H2⟩;go_wp2_with fail;go_fit(lY rT eY H2.out);rintro e v3 ⟨A3,c3,rfl,H3⟩;go_wp2_with fail;go_fit(Ki H3.out (p:=wg));rintro e v ⟨A,n,c,rfl,hr,h0,hb⟩;go_wp2_with(with_reducible refine sT [377] ?_);refine eL (wpList_store_row D _ _ _ D w.heap.size _ D D _ _ h0 (by kernel_rfl) D (by kernel_rfl) ?_);simp only[Act.put];repeat go_step
 exact bR (fG D _ _ w.heap.size _ _ _ _ D (setRow_heap _ _ _ _ _ _ h0) underlying377 D (by kernel_rfl)) D (rQ hr h0 hb)
theorem TJ(w:aS):aU bH 248 #[O Y 1] w (jS wi w):=by
 have H0:=bK (yA w);go_enter rM,pV;go_wp2_with fail;go_fit(lY sN eY H0.out);rintro e v1 ⟨A1,c1,rfl,H1⟩;go_wp2_with fail;go_fit(lY sP eY H1.out);rintro e v2 ⟨A2,c2,rfl,H2⟩;go_wp2_with fail;go_fit(lY Dv eY H2.out);rintro e v3 ⟨A3,c3,rfl,H3⟩;go_wp2_with fail;go_fit(lY ZV eY H3.out);rintro e v4 ⟨A4,c4,rfl,H4⟩;go_wp2_with fail;go_fit(lY sP eY H4.out);rintro e v5 ⟨A5,c5,rfl,H5⟩;go_wp2_with fail;go_fit(Ki H5.out (p:=wi));rintro e v ⟨A,n,c,rfl,hr,h0,hb⟩;go_wp2_with(with_reducible refine sT [377] ?_);refine eL (wpList_store_row D _ _ _ D w.heap.size _ D D _ _ h0 (by kernel_rfl) D (by kernel_rfl) ?_);simp only[Act.put];repeat go_step
 exact bR (fG D _ _ w.heap.size _ _ _ _ D (setRow_heap _ _ _ _ _ _ h0) underlying377 D (by kernel_rfl)) D (rQ hr h0 hb)
theorem RV(w:aS):aU bH 248 #[O Y 2] w (jS vw w):=by
 have H0:=bK (yA w);go_enter rM,pV;go_wp2_with fail;go_fit(lY Dr eY H0.out);rintro e v1 ⟨A1,c1,rfl,H1⟩;go_wp2_with fail;go_fit(lY sN eY H1.out);rintro e v2 ⟨A2,c2,rfl,H2⟩;go_wp2_with fail;go_fit(Ki H2.out (p:=vw));rintro e v ⟨A,n,c,rfl,hr,h0,hb⟩;go_wp2_with(with_reducible refine sT [377] ?_);refine eL (wpList_store_row D _ _ _ D w.heap.size _ D D _ _ h0 (by kernel_rfl) D (by kernel_rfl) ?_);simp only[Act.put];repeat go_step
 exact bR (fG D _ _ w.heap.size _ _ _ _ D (setRow_heap _ _ _ _ _ _ h0) underlying377 D (by kernel_rfl)) D (rQ hr h0 hb)
theorem PM(w:aS):aU bH 248 #[O Y 4] w (jS wj w):=by
 have H0:=bK (yA w);go_enter rM,pV;go_wp2_with fail;go_fit(lY Dr eY H0.out);rintro e v1 ⟨A1,c1,rfl,H1⟩;go_wp2_with fail;go_fit(lY sN eY H1.out);rintro e v2 ⟨A2,c2,rfl,H2⟩;go_wp2_with fail;go_fit(lY rT eY H2.out);rintro e v3 ⟨A3,c3,rfl,H3⟩;go_wp2_with fail;go_fit(Ki H3.out (p:=wj));rintro e v ⟨A,n,c,rfl,hr,h0,hb⟩;go_wp2_with(with_reducible refine sT [377] ?_);refine eL (wpList_store_row D _ _ _ D w.heap.size _ D D _ _ h0 (by kernel_rfl) D (by kernel_rfl) ?_);simp only[Act.put];repeat go_step
 exact bR (fG D _ _ w.heap.size _ _ _ _ D (setRow_heap _ _ _ _ _ _ h0) underlying377 D (by kernel_rfl)) D (rQ hr h0 hb)
theorem CD(w:aS):aU bH 248 #[O Y 111] w (jS X9 w):=by
 have H0:=bK (yA w);go_enter rM,pV;go_wp2_with fail;go_fit(lY PY eY H0.out);rintro e v1 ⟨A1,c1,rfl,H1⟩;go_wp2_with fail;go_fit(Ki H1.out (p:=X9));rintro e v ⟨A,n,c,rfl,hr,h0,hb⟩;go_wp2_with(with_reducible refine sT [377] ?_);refine eL (wpList_store_row D _ _ _ D w.heap.size _ D D _ _ h0 (by kernel_rfl) D (by kernel_rfl) ?_);simp only[Act.put];repeat go_step
 exact bR (fG D _ _ w.heap.size _ _ _ _ D (setRow_heap _ _ _ _ _ _ h0) underlying377 D (by kernel_rfl)) D (rQ hr h0 hb)
theorem Zu(w:aS):aU bH 248 #[O Y 125] w (jS Xy w):=by
 have H0:=bK (yA w);go_enter rM,pV;go_wp2_with fail;go_fit(lY sP eY H0.out);rintro e v1 ⟨A1,c1,rfl,H1⟩;go_wp2_with fail;go_fit(Ki H1.out (p:=Xy));rintro e v ⟨A,n,c,rfl,hr,h0,hb⟩;go_wp2_with(with_reducible refine sT [377] ?_);refine eL (wpList_store_row D _ _ _ D w.heap.size _ D D _ _ h0 (by kernel_rfl) D (by kernel_rfl) ?_);simp only[Act.put];repeat go_step
 exact bR (fG D _ _ w.heap.size _ _ _ _ D (setRow_heap _ _ _ _ _ _ h0) underlying377 D (by kernel_rfl)) D (rQ hr h0 hb)
theorem FZ(id:Int)(h0: ¬id=0)(h1: ¬id=1)(h2: ¬id=2)(h4: ¬id=4)(Pn: ¬id=111)(Po: ¬id=125)(w:aS):aU bH 248 #[O Y id] w (jS wY w):=by
 have q0:(id==0)=aD:=by rw[dW];exact h0
 have q1:(id==1)=aD:=by rw[dW];exact h1
 have q2:(id==2)=aD:=by rw[dW];exact h2
 have q4:(id==4)=aD:=by rw[dW];exact h4
 have aJg:(id==111)=aD:=by rw[dW];exact Pn
 have aJh:(id==125)=aD:=by rw[dW];exact Po
 have a0:=bS w (aI #[aH ⟨#[]⟩,aL J 0 0] 377);have hb:aV w.heap.size w (w.alloc (aI #[aH ⟨#[]⟩,aL J 0 0] 377)):=(bP _ _).alloc (bM _) _;have hb':=below_setRow hb (bM _) (#[aH ⟨#[]⟩,aL J 0 0]:Array aT);have b0:=setRow_heap _ _ _ (#[aH ⟨#[]⟩,aL J 0 0]:Array aT) _ _ a0;go_enter rM,pV;go_wp2_with(first|(with_reducible refine vR 377 ?_));refine eL ?_;generalize(w.alloc (aI #[aH ⟨#[]⟩,aL J 0 0] 377))=v at*;go_wp2_with(first|(with_reducible refine pF 377 ?_));refine eL (wpList_store_row D _ _ _ D w.heap.size #[aH ⟨#[]⟩,aL J 0 0] D D _ _ a0 (by kernel_rfl) D (by kernel_rfl) ?_);generalize(v.setRow w.heap.size #[aH ⟨#[]⟩,aL J 0 0])=w9 at*;have e0:=bL (i:=0) (v:=aH ⟨#[]⟩) b0 D;have e1:=bL (i:=1) (v:=aL J 0 0) b0 D;clear a0 b0 hb;go_wp2;exact bR (v:=aM #[aH ⟨#[]⟩,aL J 0 0]) (by simp[results,go_sem,e0,e1]) D ⟨J,0,0,D,kR _ _ _,hb'⟩
theorem CG(id:Int)(w:aS):aU bH 248 #[O Y id] w (jS (FD id) w):=by
 unfold FD;by_cases h0:id=0
 ·subst h0;rw[bY D];exact PA w
 rw[bX h0];by_cases h1:id=1
 ·subst h1;rw[bY D];exact TJ w
 rw[bX h1];by_cases h2:id=2
 ·subst h2;rw[bY D];exact RV w
 rw[bX h2];by_cases h4:id=4
 ·subst h4;rw[bY D];exact PM w
 rw[bX h4];by_cases Pn:id=111
 ·subst Pn;rw[bY D];exact CD w
 rw[bX Pn];by_cases Po:id=125
 ·subst Po;rw[bY D];exact Zu w
 rw[bX Po];exact FZ id h0 h1 h2 h4 Pn Po w
abbrev pU:=@ntmps249
abbrev rL:=@func249
theorem BK(w:aS):aU bH 249 #[O Y 24] w (jS OT w):=by
 have H0:=bK (yA w);go_enter rL,pU;go_wp2_with fail;go_fit(lY Dr eY H0.out);rintro e v1 ⟨A1,c1,rfl,H1⟩;go_wp2_with fail;go_fit(lY rT eY H1.out);rintro e v2 ⟨A2,c2,rfl,H2⟩;go_wp2_with fail;go_fit(lY On eY H2.out);rintro e v3 ⟨A3,c3,rfl,H3⟩;go_wp2_with fail;go_fit(lY sP eY H3.out);rintro e v4 ⟨A4,c4,rfl,H4⟩;go_wp2_with fail;go_fit(lY rT eY H4.out);rintro e v5 ⟨A5,c5,rfl,H5⟩;go_wp2_with fail;go_fit(Ki H5.out (p:=OT));rintro e v ⟨A,n,c,rfl,hr,h0,hb⟩;go_wp2_with(with_reducible refine sT [377] ?_);refine eL (wpList_store_row D _ _ _ D w.heap.size _ D D _ _ h0 (by kernel_rfl) D (by kernel_rfl) ?_);simp only[Act.put];repeat go_step
 exact bR (fG D _ _ w.heap.size _ _ _ _ D (setRow_heap _ _ _ _ _ _ h0) underlying377 D (by kernel_rfl)) D (rQ hr h0 hb)
theorem Zn(w:aS):aU bH 249 #[O Y 25] w (jS RF w):=by
 have H0:=bK (yA w);go_enter rL,pU;go_wp2_with fail;go_fit(lY rT eY H0.out);rintro e v1 ⟨A1,c1,rfl,H1⟩;go_wp2_with fail;go_fit(lv 20 H1.out);rintro e v2 ⟨A2,c2,rfl,H2⟩;go_wp2_with fail;go_fit(Ki H2.out (p:=RF));rintro e v ⟨A,n,c,rfl,hr,h0,hb⟩;go_wp2_with(with_reducible refine sT [377] ?_);refine eL (wpList_store_row D _ _ _ D w.heap.size _ D D _ _ h0 (by kernel_rfl) D (by kernel_rfl) ?_);simp only[Act.put];repeat go_step
 exact bR (fG D _ _ w.heap.size _ _ _ _ D (setRow_heap _ _ _ _ _ _ h0) underlying377 D (by kernel_rfl)) D (rQ hr h0 hb)
theorem AA(w:aS):aU bH 249 #[O Y 26] w (jS OY w):=by
 have H0:=bK (yA w);go_enter rL,pU;go_wp2_with fail;go_fit(lY sN eY H0.out);rintro e v1 ⟨A1,c1,rfl,H1⟩;go_wp2_with fail;go_fit(oe H1.out);rintro e v2 ⟨A2,c2,rfl,H2⟩;go_wp2_with fail;go_fit(Ki H2.out (p:=OY));rintro e v ⟨A,n,c,rfl,hr,h0,hb⟩;go_wp2_with(with_reducible refine sT [377] ?_);refine eL (wpList_store_row D _ _ _ D w.heap.size _ D D _ _ h0 (by kernel_rfl) D (by kernel_rfl) ?_);simp only[Act.put];repeat go_step
 exact bR (fG D _ _ w.heap.size _ _ _ _ D (setRow_heap _ _ _ _ _ _ h0) underlying377 D (by kernel_rfl)) D (rQ hr h0 hb)
theorem AT(w:aS):aU bH 249 #[O Y 27] w (jS TG w):=by
 have H0:=bK (yA w);go_enter rL,pU;go_wp2_with fail;go_fit(lY Dr eY H0.out);rintro e v1 ⟨A1,c1,rfl,H1⟩;go_wp2_with fail;go_fit(oe H1.out);rintro e v2 ⟨A2,c2,rfl,H2⟩;go_wp2_with fail;go_fit(Ki H2.out (p:=TG));rintro e v ⟨A,n,c,rfl,hr,h0,hb⟩;go_wp2_with(with_reducible refine sT [377] ?_);refine eL (wpList_store_row D _ _ _ D w.heap.size _ D D _ _ h0 (by kernel_rfl) D (by kernel_rfl) ?_);simp only[Act.put];repeat go_step
 exact bR (fG D _ _ w.heap.size _ _ _ _ D (setRow_heap _ _ _ _ _ _ h0) underlying377 D (by kernel_rfl)) D (rQ hr h0 hb)
theorem AL(w:aS):aU bH 249 #[O Y 28] w (jS RM w):=by
 have H0:=bK (yA w);go_enter rL,pU;go_wp2_with fail;go_fit(lY Dr eY H0.out);rintro e v1 ⟨A1,c1,rfl,H1⟩;go_wp2_with fail;go_fit(lY Dv eY H1.out);rintro e v2 ⟨A2,c2,rfl,H2⟩;go_wp2_with fail;go_fit(Ki H2.out (p:=RM));rintro e v ⟨A,n,c,rfl,hr,h0,hb⟩;go_wp2_with(with_reducible refine sT [377] ?_);refine eL (wpList_store_row D _ _ _ D w.heap.size _ D D _ _ h0 (by kernel_rfl) D (by kernel_rfl) ?_);simp only[Act.put];repeat go_step
 exact bR (fG D _ _ w.heap.size _ _ _ _ D (setRow_heap _ _ _ _ _ _ h0) underlying377 D (by kernel_rfl)) D (rQ hr h0 hb)
theorem BT(w:aS):aU bH 249 #[O Y 33] w (jS OP w):=by
 have H0:=bK (yA w);go_enter rL,pU;go_wp2_with fail;go_fit(lY sN eY H0.out);rintro e v1 ⟨A1,c1,rfl,H1⟩;go_wp2_with fail;go_fit(lY On eY H1.out);rintro e v2 ⟨A2,c2,rfl,H2⟩;go_wp2_with fail;go_fit(lY Dv eY H2.out);rintro e v3 ⟨A3,c3,rfl,H3⟩;go_wp2_with fail;go_fit(lY sP eY H3.out);rintro e v4 ⟨A4,c4,rfl,H4⟩;go_wp2_with fail;go_fit(Ki H4.out (p:=OP));rintro e v ⟨A,n,c,rfl,hr,h0,hb⟩;go_wp2_with(with_reducible refine sT [377] ?_);refine eL (wpList_store_row D _ _ _ D w.heap.size _ D D _ _ h0 (by kernel_rfl) D (by kernel_rfl) ?_);simp only[Act.put];repeat go_step
 exact bR (fG D _ _ w.heap.size _ _ _ _ D (setRow_heap _ _ _ _ _ _ h0) underlying377 D (by kernel_rfl)) D (rQ hr h0 hb)
theorem AU(id:Int)(DP: ¬id=24)(MN: ¬id=25)(MO: ¬id=26)(MP: ¬id=27)(MQ: ¬id=28)(UN: ¬id=33)(w:aS):aU bH 249 #[O Y id] w (jS wY w):=by
 have q24:(id==24)=aD:=by rw[beq_eq_false_iff_ne];exact DP
 have q25:(id==25)=aD:=by rw[beq_eq_false_iff_ne];exact MN
 have q26:(id==26)=aD:=by rw[beq_eq_false_iff_ne];exact MO
 have q27:(id==27)=aD:=by rw[beq_eq_false_iff_ne];exact MP
 have q28:(id==28)=aD:=by rw[beq_eq_false_iff_ne];exact MQ
 have q33:(id==33)=aD:=by rw[beq_eq_false_iff_ne];exact UN
 have a0:=bS w (aI #[aH ⟨#[]⟩,aL J 0 0] 377);have hb:aV w.heap.size w (w.alloc (aI #[aH ⟨#[]⟩,aL J 0 0] 377)):=(bP _ _).alloc (bM _) _;have hb':=below_setRow hb (bM _) (#[aH ⟨#[]⟩,aL J 0 0]:Array aT);have b0:=setRow_heap _ _ _ (#[aH ⟨#[]⟩,aL J 0 0]:Array aT) _ _ a0;go_enter rL,pU;go_wp2_with(first|(with_reducible refine vR 377 ?_));refine eL ?_;generalize(w.alloc (aI #[aH ⟨#[]⟩,aL J 0 0] 377))=v at*;go_wp2_with(first|(with_reducible refine pF 377 ?_));refine eL (wpList_store_row D _ _ _ D w.heap.size #[aH ⟨#[]⟩,aL J 0 0] D D _ _ a0 (by kernel_rfl) D (by kernel_rfl) ?_);generalize(v.setRow w.heap.size #[aH ⟨#[]⟩,aL J 0 0])=w9 at*;have e0:=bL (i:=0) (v:=aH ⟨#[]⟩) b0 D;have e1:=bL (i:=1) (v:=aL J 0 0) b0 D;clear a0 b0 hb;go_wp2;exact bR (v:=aM #[aH ⟨#[]⟩,aL J 0 0]) (by simp[results,go_sem,e0,e1]) D ⟨J,0,0,D,kR _ _ _,hb'⟩
theorem Ua(id:Int)(w:aS):aU bH 249 #[O Y id] w (jS (JW id) w):=by
 unfold JW;by_cases DP:id=24
 ·subst DP;rw[bY D];exact BK w
 rw[bX DP];by_cases MN:id=25
 ·subst MN;rw[bY D];exact Zn w
 rw[bX MN];by_cases MO:id=26
 ·subst MO;rw[bY D];exact AA w
 rw[bX MO];by_cases MP:id=27
 ·subst MP;rw[bY D];exact AT w
 rw[bX MP];by_cases MQ:id=28
 ·subst MQ;rw[bY D];exact AL w
 rw[bX MQ];by_cases UN:id=33
 ·subst UN;rw[bY D];exact BT w
 rw[bX UN];exact AU id DP MN MO MP MQ UN w
abbrev oD:=@ntmps250
abbrev pJ:=@func250
theorem IL(w:aS):aU bH 250 #[O Y 35] w (jS TL w):=by
 have H0:=bK (yA w);go_enter pJ,oD;go_wp2_with fail;go_fit(lY sN eY H0.out);rintro e v1 ⟨A1,c1,rfl,H1⟩;go_wp2_with fail;go_fit(lY rT eY H1.out);rintro e v2 ⟨A2,c2,rfl,H2⟩;go_wp2_with fail;go_fit(lY sP eY H2.out);rintro e v3 ⟨A3,c3,rfl,H3⟩;go_wp2_with fail;go_fit(lY rT eY H3.out);rintro e v4 ⟨A4,c4,rfl,H4⟩;go_wp2_with fail;go_fit(Ki H4.out (p:=TL));rintro e v ⟨A,n,c,rfl,hr,h0,hb⟩;go_wp2_with(with_reducible refine sT [377] ?_);refine eL (wpList_store_row D _ _ _ D w.heap.size _ D D _ _ h0 (by kernel_rfl) D (by kernel_rfl) ?_);simp only[Act.put];repeat go_step
 exact bR (fG D _ _ w.heap.size _ _ _ _ D (setRow_heap _ _ _ _ _ _ h0) underlying377 D (by kernel_rfl)) D (rQ hr h0 hb)
theorem GM(w:aS):aU bH 250 #[O Y 36] w (jS TF w):=by
 have H0:=bK (yA w);go_enter pJ,oD;go_wp2_with fail;go_fit(lY sN eY H0.out);rintro e v1 ⟨A1,c1,rfl,H1⟩;go_wp2_with fail;go_fit(lY rT eY H1.out);rintro e v2 ⟨A2,c2,rfl,H2⟩;go_wp2_with fail;go_fit(lY sP eY H2.out);rintro e v3 ⟨A3,c3,rfl,H3⟩;go_wp2_with fail;go_fit(Ki H3.out (p:=TF));rintro e v ⟨A,n,c,rfl,hr,h0,hb⟩;go_wp2_with(with_reducible refine sT [377] ?_);refine eL (wpList_store_row D _ _ _ D w.heap.size _ D D _ _ h0 (by kernel_rfl) D (by kernel_rfl) ?_);simp only[Act.put];repeat go_step
 exact bR (fG D _ _ w.heap.size _ _ _ _ D (setRow_heap _ _ _ _ _ _ h0) underlying377 D (by kernel_rfl)) D (rQ hr h0 hb)
theorem EX(w:aS):aU bH 250 #[O Y 42] w (jS PB w):=by
 have H0:=bK (yA w);go_enter pJ,oD;go_wp2_with fail;go_fit(lY sP eY H0.out);rintro e v1 ⟨A1,c1,rfl,H1⟩;go_wp2_with fail;go_fit(Ki H1.out (p:=PB));rintro e v ⟨A,n,c,rfl,hr,h0,hb⟩;go_wp2_with(with_reducible refine sT [377] ?_);refine eL (wpList_store_row D _ _ _ D w.heap.size _ D D _ _ h0 (by kernel_rfl) D (by kernel_rfl) ?_);simp only[Act.put];repeat go_step
 exact bR (fG D _ _ w.heap.size _ _ _ _ D (setRow_heap _ _ _ _ _ _ h0) underlying377 D (by kernel_rfl)) D (rQ hr h0 hb)
theorem FG(w:aS):aU bH 250 #[O Y 44] w (jS QW w):=by
 have H0:=bK (yA w);go_enter pJ,oD;go_wp2_with fail;go_fit(lY rT eY H0.out);rintro e v1 ⟨A1,c1,rfl,H1⟩;go_wp2_with fail;go_fit(lY sP eY H1.out);rintro e v2 ⟨A2,c2,rfl,H2⟩;go_wp2_with fail;go_fit(Ki H2.out (p:=QW));rintro e v ⟨A,n,c,rfl,hr,h0,hb⟩;go_wp2_with(with_reducible refine sT [377] ?_);refine eL (wpList_store_row D _ _ _ D w.heap.size _ D D _ _ h0 (by kernel_rfl) D (by kernel_rfl) ?_);simp only[Act.put];repeat go_step
 exact bR (fG D _ _ w.heap.size _ _ _ _ D (setRow_heap _ _ _ _ _ _ h0) underlying377 D (by kernel_rfl)) D (rQ hr h0 hb)
theorem KK(w:aS):aU bH 250 #[O Y 47] w (jS PC w):=by
 have H0:=bK (yA w);go_enter pJ,oD;go_wp2_with fail;go_fit(lY rT eY H0.out);rintro e v1 ⟨A1,c1,rfl,H1⟩;go_wp2_with fail;go_fit(Ki H1.out (p:=PC));rintro e v ⟨A,n,c,rfl,hr,h0,hb⟩;go_wp2_with(with_reducible refine sT [377] ?_);refine eL (wpList_store_row D _ _ _ D w.heap.size _ D D _ _ h0 (by kernel_rfl) D (by kernel_rfl) ?_);simp only[Act.put];repeat go_step
 exact bR (fG D _ _ w.heap.size _ _ _ _ D (setRow_heap _ _ _ _ _ _ h0) underlying377 D (by kernel_rfl)) D (rQ hr h0 hb)
theorem EL(w:aS):aU bH 250 #[O Y 66] w (jS PQ w):=by
 have H0:=bK (yA w);go_enter pJ,oD;go_wp2_with fail;go_fit(lY rT eY H0.out);rintro e v1 ⟨A1,c1,rfl,H1⟩;go_wp2_with fail;go_fit(lY sP eY H1.out);rintro e v2 ⟨A2,c2,rfl,H2⟩;go_wp2_with fail;go_fit(lY rT eY H2.out);rintro e v3 ⟨A3,c3,rfl,H3⟩;go_wp2_with fail;go_fit(Ki H3.out (p:=PQ));rintro e v ⟨A,n,c,rfl,hr,h0,hb⟩;go_wp2_with(with_reducible refine sT [377] ?_);refine eL (wpList_store_row D _ _ _ D w.heap.size _ D D _ _ h0 (by kernel_rfl) D (by kernel_rfl) ?_);simp only[Act.put];repeat go_step
 exact bR (fG D _ _ w.heap.size _ _ _ _ D (setRow_heap _ _ _ _ _ _ h0) underlying377 D (by kernel_rfl)) D (rQ hr h0 hb)
theorem JA(w:aS):aU bH 250 #[O Y 77] w (jS OL w):=by
 have H0:=bK (yA w);go_enter pJ,oD;go_wp2_with fail;go_fit(lY sP eY H0.out);rintro e v1 ⟨A1,c1,rfl,H1⟩;go_wp2_with fail;go_fit(lY rT eY H1.out);rintro e v2 ⟨A2,c2,rfl,H2⟩;go_wp2_with fail;go_fit(Ki H2.out (p:=OL));rintro e v ⟨A,n,c,rfl,hr,h0,hb⟩;go_wp2_with(with_reducible refine sT [377] ?_);refine eL (wpList_store_row D _ _ _ D w.heap.size _ D D _ _ h0 (by kernel_rfl) D (by kernel_rfl) ?_);simp only[Act.put];repeat go_step
 exact bR (fG D _ _ w.heap.size _ _ _ _ D (setRow_heap _ _ _ _ _ _ h0) underlying377 D (by kernel_rfl)) D (rQ hr h0 hb)
theorem FC(id:Int)(UO: ¬id=35)(Xb: ¬id=36)(Gb: ¬id=42)(UP: ¬id=44)(UQ: ¬id=47)(US: ¬id=66)(UU: ¬id=77)(w:aS):aU bH 250 #[O Y id] w (jS wY w):=by
 have q35:(id==35)=aD:=by rw[beq_eq_false_iff_ne];exact UO
 have q36:(id==36)=aD:=by rw[beq_eq_false_iff_ne];exact Xb
 have q42:(id==42)=aD:=by rw[beq_eq_false_iff_ne];exact Gb
 have q44:(id==44)=aD:=by rw[beq_eq_false_iff_ne];exact UP
 have q47:(id==47)=aD:=by rw[beq_eq_false_iff_ne];exact UQ
 have q66:(id==66)=aD:=by rw[beq_eq_false_iff_ne];exact US
 have q77:(id==77)=aD:=by rw[beq_eq_false_iff_ne];exact UU
 have a0:=bS w (aI #[aH ⟨#[]⟩,aL J 0 0] 377);have hb:aV w.heap.size w (w.alloc (aI #[aH ⟨#[]⟩,aL J 0 0] 377)):=(bP _ _).alloc (bM _) _;have hb':=below_setRow hb (bM _) (#[aH ⟨#[]⟩,aL J 0 0]:Array aT);have b0:=setRow_heap _ _ _ (#[aH ⟨#[]⟩,aL J 0 0]:Array aT) _ _ a0;go_enter pJ,oD;go_wp2_with(first|(with_reducible refine vR 377 ?_));refine eL ?_;generalize(w.alloc (aI #[aH ⟨#[]⟩,aL J 0 0] 377))=v at*;go_wp2_with(first|(with_reducible refine pF 377 ?_));refine eL (wpList_store_row D _ _ _ D w.heap.size #[aH ⟨#[]⟩,aL J 0 0] D D _ _ a0 (by kernel_rfl) D (by kernel_rfl) ?_);generalize(v.setRow w.heap.size #[aH ⟨#[]⟩,aL J 0 0])=w9 at*;have e0:=bL (i:=0) (v:=aH ⟨#[]⟩) b0 D;have e1:=bL (i:=1) (v:=aL J 0 0) b0 D;clear a0 b0 hb;go_wp2;exact bR (v:=aM #[aH ⟨#[]⟩,aL J 0 0]) (by simp[results,go_sem,e0,e1]) D ⟨J,0,0,D,kR _ _ _,hb'⟩
theorem Zf(id:Int)(w:aS):aU bH 250 #[O Y id] w (jS (EW id) w):=by
 unfold EW;by_cases UO:id=35
 ·subst UO;rw[bY D];exact IL w
 rw[bX UO];by_cases Xb:id=36
 ·subst Xb;rw[bY D];exact GM w
 rw[bX Xb];by_cases Gb:id=42
 ·subst Gb;rw[bY D];exact EX w
 rw[bX Gb];by_cases UP:id=44
 ·subst UP;rw[bY D];exact FG w
 rw[bX UP];by_cases UQ:id=47
 ·subst UQ;rw[bY D];exact KK w
 rw[bX UQ];by_cases US:id=66
 ·subst US;rw[bY D];exact EL w
 rw[bX US];by_cases UU:id=77
 ·subst UU;rw[bY D];exact JA w
 rw[bX UU];exact FC id UO Xb Gb UP UQ US UU w
theorem RQ(w:aS):aU bH 251 #[O Y 200] w (jS Yp w):=by
 have H0:=bK (yA w);go_enter func251,ntmps251;go_wp2_with fail;go_fit(lY sN eY H0.out);rintro e v1 ⟨A1,c1,rfl,H1⟩;go_wp2_with fail;go_fit(lY Dv eY H1.out);rintro e v2 ⟨A2,c2,rfl,H2⟩;go_wp2_with fail;go_fit(Ki H2.out (p:=Yp));rintro e v ⟨A,n,c,rfl,hr,h0,hb⟩;go_wp2_with(with_reducible refine sT [377] ?_);refine eL (wpList_store_row D _ _ _ D w.heap.size _ D D _ _ h0 (by kernel_rfl) D (by kernel_rfl) ?_);simp only[Act.put];repeat go_step
 exact bR (fG D _ _ w.heap.size _ _ _ _ D (setRow_heap _ _ _ _ _ _ h0) underlying377 D (by kernel_rfl)) D (rQ hr h0 hb)
theorem QN(w:aS):aU bH 251 #[O Y 201] w (jS X6 w):=by
 have H0:=bK (yA w);go_enter func251,ntmps251;go_wp2_with fail;go_fit(lY sN eY H0.out);rintro e v1 ⟨A1,c1,rfl,H1⟩;go_wp2_with fail;go_fit(lY On eY H1.out);rintro e v2 ⟨A2,c2,rfl,H2⟩;go_wp2_with fail;go_fit(lY sN eY H2.out);rintro e v3 ⟨A3,c3,rfl,H3⟩;go_wp2_with fail;go_fit(lY sP eY H3.out);rintro e v4 ⟨A4,c4,rfl,H4⟩;go_wp2_with fail;go_fit(Ki H4.out (p:=X6));rintro e v ⟨A,n,c,rfl,hr,h0,hb⟩;go_wp2_with(with_reducible refine sT [377] ?_);refine eL (wpList_store_row D _ _ _ D w.heap.size _ D D _ _ h0 (by kernel_rfl) D (by kernel_rfl) ?_);simp only[Act.put];repeat go_step
 exact bR (fG D _ _ w.heap.size _ _ _ _ D (setRow_heap _ _ _ _ _ _ h0) underlying377 D (by kernel_rfl)) D (rQ hr h0 hb)
theorem OW(w:aS):aU bH 251 #[O Y 202] w (jS X0 w):=by
 have H0:=bK (yA w);go_enter func251,ntmps251;go_wp2_with fail;go_fit(lY sN eY H0.out);rintro e v1 ⟨A1,c1,rfl,H1⟩;go_wp2_with fail;go_fit(lY rT eY H1.out);rintro e v2 ⟨A2,c2,rfl,H2⟩;go_wp2_with fail;go_fit(lv 64 H2.out);rintro e v3 ⟨A3,c3,rfl,H3⟩;go_wp2_with fail;go_fit(Ki H3.out (p:=X0));rintro e v ⟨A,n,c,rfl,hr,h0,hb⟩;go_wp2_with(with_reducible refine sT [377] ?_);refine eL (wpList_store_row D _ _ _ D w.heap.size _ D D _ _ h0 (by kernel_rfl) D (by kernel_rfl) ?_);simp only[Act.put];repeat go_step
 exact bR (fG D _ _ w.heap.size _ _ _ _ D (setRow_heap _ _ _ _ _ _ h0) underlying377 D (by kernel_rfl)) D (rQ hr h0 hb)
theorem bh(id:Int)(Pp: ¬id=200)(Pq: ¬id=201)(Pr: ¬id=202)(w:aS):aU bH 251 #[O Y id] w (jS wY w):=by
 have aJi:(id==200)=aD:=by rw[beq_eq_false_iff_ne];exact Pp
 have aJj:(id==201)=aD:=by rw[beq_eq_false_iff_ne];exact Pq
 have aJk:(id==202)=aD:=by rw[beq_eq_false_iff_ne];exact Pr
 have a0:=bS w (aI #[aH ⟨#[]⟩,aL J 0 0] 377);have hb:aV w.heap.size w (w.alloc (aI #[aH ⟨#[]⟩,aL J 0 0] 377)):=(bP _ _).alloc (bM _) _;have hb':=below_setRow hb (bM _) (#[aH ⟨#[]⟩,aL J 0 0]:Array aT);have b0:=setRow_heap _ _ _ (#[aH ⟨#[]⟩,aL J 0 0]:Array aT) _ _ a0;go_enter func251,ntmps251;go_wp2_with(first|(with_reducible refine vR 377 ?_));refine eL ?_;generalize(w.alloc (aI #[aH ⟨#[]⟩,aL J 0 0] 377))=v at*;go_wp2_with(first|(with_reducible refine pF 377 ?_));refine eL (wpList_store_row D _ _ _ D w.heap.size #[aH ⟨#[]⟩,aL J 0 0] D D _ _ a0 (by kernel_rfl) D (by kernel_rfl) ?_);generalize(v.setRow w.heap.size #[aH ⟨#[]⟩,aL J 0 0])=w9 at*;have e0:=bL (i:=0) (v:=aH ⟨#[]⟩) b0 D;have e1:=bL (i:=1) (v:=aL J 0 0) b0 D;clear a0 b0 hb;go_wp2;exact bR (v:=aM #[aH ⟨#[]⟩,aL J 0 0]) (by simp[results,go_sem,e0,e1]) D ⟨J,0,0,D,kR _ _ _,hb'⟩
theorem TI(id:Int)(w:aS):aU bH 251 #[O Y id] w (jS (IY id) w):=by
 unfold IY;by_cases Pp:id=200
 ·subst Pp;rw[bY D];exact RQ w
 rw[bX Pp];by_cases Pq:id=201
 ·subst Pq;rw[bY D];exact QN w
 rw[bX Pq];by_cases Pr:id=202
 ·subst Pr;rw[bY D];exact OW w
 rw[bX Pr];exact bh id Pp Pq Pr w
end
section
open Go.RowKit NumLaw
attribute [local go_sem] Addr.add_mid
abbrev rO:=@underlying9
theorem lA{s:ByteArray}(h: ¬s=⟨#[]⟩):s.toList.isEmpty=aD:=by
 rw[ByteArray.toList_eq];obtain⟨⟨l⟩⟩:=s
 cases l with
 |nil=>exact absurd D h
 |cons _ _=>rfl
theorem Sn{s:ByteArray}(h:s=⟨#[]⟩):s.toList.isEmpty=aF:=by
 rw[ByteArray.toList_eq,h];rfl
theorem P8(t:aY)(y:Operand){P:aZ}{w:aS}{ops:Array bA}{rest:List bA}{a:Act}{Q:Exit→Act→aS→Prop}{x:Operand}{d:Option Tmp}{ty:aY}{pos:String}{af:Array Edge}
  (h:Stop (wpList P ops Q (⟨d,.store t x y,ty,pos,af,J⟩::rest) a w)):wpList P ops Q (⟨d,.store t x y,ty,pos,af,J⟩::rest) a w:=h
structure jb where
 s:ByteArray
 A:Option aW
 n:Nat
 c:Nat
 L:List PtT
def fmC(r:jb):List aT:= [aH r.s,aL r.A r.n r.c]
theorem Dq(id:Int)(w:aS):aU bH 208 #[O Y id] w (jS (mW id) w):=by
 have h1:=fun w=>CG id w;have h2:=fun w=>Ua id w;have h3:=fun w=>Zf id w;have h4:=fun w=>TI id w;unfold mW;generalize FD id=p1 at*;generalize JW id=p2 at*;generalize EW id=p3 at*;generalize IY id=p4 at*;have H1:=bK h1;have H2:=bK h2;have H3:=bK h3;have H4:=bK h4;have a0:=bS w (aI #[aH ⟨#[]⟩,aL J 0 0] 377);have hb:aV w.heap.size w (w.alloc (aI #[aH ⟨#[]⟩,aL J 0 0] 377)):=(bP _ _).alloc (bM _) _;clear h1 h2 h3 h4;go_enter func208,ntmps208;go_wp2_with fail;generalize(w.alloc (aI #[aH ⟨#[]⟩,aL J 0 0] 377))=w0 at*;go_fit(H1.out w0);unfold jS;rintro e w1 ⟨A1,n1,c1,rfl,hr1,hbx⟩;replace a0:=bV a0 hbx (bT a0);replace hb:=eI hb hbx;clear hbx H1 w0;go_wp2_with fail;go_fit(H2.out w1);unfold jS;rintro e w2 ⟨A2,n2,c2,rfl,hr2,hbx⟩;replace a0:=bV a0 hbx (bT a0);replace hb:=eI hb hbx;replace hr1:RdP _ _ A1 n1 c1 p1.2:=yW hr1 hbx;clear hbx H2;go_wp2_with fail;go_fit(H3.out w2);unfold jS;rintro e w3 ⟨A3,n3,c3,rfl,hr3,hbx⟩;replace a0:=bV a0 hbx (bT a0);replace hb:=eI hb hbx;replace hr1:RdP _ _ A1 n1 c1 p1.2:=yW hr1 hbx;replace hr2:RdP _ _ A2 n2 c2 p2.2:=yW hr2 hbx;clear hbx H3;go_wp2_with fail;go_fit(H4.out w3);unfold jS;rintro e w4 ⟨A4,n4,c4,rfl,hr4,hbx⟩;replace a0:=bV a0 hbx (bT a0);replace hb:=eI hb hbx;replace hr1:RdP _ _ A1 n1 c1 p1.2:=yW hr1 hbx;replace hr2:RdP _ _ A2 n2 c2 p2.2:=yW hr2 hbx;replace hr3:RdP _ _ A3 n3 c3 p3.2:=yW hr3 hbx;clear hbx H4;obtain⟨F,hF⟩: ∃F:List jb,F= [⟨p1.1,A1,n1,c1,p1.2⟩,⟨p2.1,A2,n2,c2,p2.2⟩,⟨p3.1,A3,n3,c3,p3.2⟩,⟨p4.1,A4,n4,c4,p4.2⟩]:=⟨_,D⟩;have hFl:F.length=4:=by rw[hF];rfl
 have hFp:F.map (fun r:jb=>((r.s,r.L):uV))= [p1,p2,p3,p4]:=by rw[hF];rfl
 have xl: ∀r∈F,RdP w4 w4.heap.size r.A r.n r.c r.L:=by
  rw[hF];intro r hr;simp only[fL,List.not_mem_nil,or_false] at hr;rcases hr with rfl|rfl|rfl|rfl
  ·exact hr1
  ·exact hr2
  ·exact hr3
  ·exact hr4
 have DU:=sQ (size:=2) (e:=377) w4 (F.map fmC) #[aH p1.1,aL A1 n1 c1,aH p2.1,aL A2 n2 c2,aH p3.1,aL A3 n3 c3,aH p4.1,aL A4 n4 c4] (by rw[hF];rfl) (by intro r hr;obtain⟨f,_,rfl⟩:=List.mem_map.1 hr;rfl) (by rw[hF];simp[bB]) 4 (by rw[hF];rfl);have hbn:aV w4.heap.size w4 (w4.alloc (aI #[aH p1.1,aL A1 n1 c1,aH p2.1,aL A2 n2 c2,aH p3.1,aL A3 n3 c3,aH p4.1,aL A4 n4 c4] 377)):=(bP _ _).alloc (bM _) _;have iJ:(w4.alloc (aI #[aH p1.1,aL A1 n1 c1,aH p2.1,aL A2 n2 c2,aH p3.1,aL A3 n3 c3,aH p4.1,aL A4 n4 c4] 377)).heap.size=w4.heap.size+1:=cL _ _;rw[←iJ] at DU;replace a0:=bV a0 hbn (bT a0);replace hb:=eI hb hbn;replace xl:=fun(r:jb) (hr:r∈F)=>(show RdP _ _ r.A r.n r.c r.L from yW (show RdR w4 w4.heap.size 4 r.A r.n r.c (r.L.map pH) from xl r hr) hbn);have HF:=bK (bO hFl hFp);have HFr:=bK xl;have Hlit:=bK DU;clear hr1 hr2 hr3 hr4 hbn iJ hFl hFp xl DU hF;go_wp2_with fail;generalize(w4.alloc (aI #[aH p1.1,aL A1 n1 c1,aH p2.1,aL A2 n2 c2,aH p3.1,aL A3 n3 c3,aH p4.1,aL A4 n4 c4] 377))=w5 at*;go_loopw [15] (fun i wr=> ∃k:Nat,k≤4∧i=O Y k∧wr.heap[w.heap.size]?=aE (aI #[aH ⟨#[]⟩,aL J 0 0] 377)∧aV w.heap.size w wr∧aV w5.heap.size w5 wr∧Hid (∀r∈F.take k,r.s=⟨#[]⟩)) (fun i _=>4-(bE i).toNat);case atStart=>exact⟨0,by omega,D,a0,hb,bP _ _,bK (by simp)⟩
 case round=>
  clear a0 hb;obtain⟨k,hk,rfl,a0,hb,hb5,He⟩:=hrel;by_cases fF:k<4
  ·have z7:(k:Int)<4:=by omega
   obtain⟨g,off,r,hA,hg,hx,Ce,hr⟩:=RdR.at_ Hlit.out fF;injection hA with hA;injection hA with e1 e2 _;subst e1;subst e2;obtain⟨x,xm⟩: ∃x,F[k]?=aE x:=⟨_,cF (by rw[HF.out.1];exact fF)⟩;rw[eN,xm] at hx;injection hx with hx;subst hx;have k0:=(hb5.cell (p:=⟨w4.heap.size,0+k*2+0,J⟩) hg).trans (hr 0 _ D);have k1:=(hb5.cell (p:=⟨w4.heap.size,0+k*2+1,J⟩) hg).trans (hr 1 _ D);rw[fZ,Nat.add_zero] at k0;rw[fZ] at k1;have hxr:RdP wr wr.heap.size x.A x.n x.c x.L:=yW (HFr.out x (dD xm)) hb5;have HxF:=bK xm;have hbn:aV wr.heap.size wr (wr.alloc (aI #[aH x.s,aL x.A x.n x.c] 377)):=(bP _ _).alloc (bM _) _;have Na:=bS wr (aI #[aH x.s,aL x.A x.n x.c] 377);have d0:=bL (i:=0) (v:=aH x.s) Na D;have d1:=bL (i:=1) (v:=aL x.A x.n x.c) Na D;replace a0:=bV a0 hbn (bT a0);replace hb:=eI hb hbn;have hb6:=eI hb5 hbn;replace hxr:RdP _ _ x.A x.n x.c x.L:=yW hxr hbn;clear xm hr Ce hbn Na hb5;by_cases hs:x.s=⟨#[]⟩
   ·have tf:=Sn hs
    have He2:=bK (show∀r∈F.take (k+1),r.s=⟨#[]⟩ by
     intro r hr;rw[fD HxF.out] at hr;rcases List.mem_append.1 hr with hr|hr
     ·exact He.out r hr
     ·rw[List.mem_singleton.1 hr];exact hs)
    clear hxr hs;go_wp2;go_roundw;case rel=>exact⟨k+1,by omega,by go_num,a0,hb,hb6,He2⟩
    case measure=>simp[bE];omega
   ·have tf:=lA hs
    have hres:=M5 (F.map (fun r:jb=>((r.s,r.L):uV))) k (x.s,x.L) (by rw[eN,HxF.out];rfl) hs (fun q hq=>by
     rw[←List.map_take] at hq;obtain⟨r,hr,rfl⟩:=List.mem_map.1 hq
     exact He.out r hr)
    rw[HF.out.2] at hres;have Hres:=bK hres;have hb':=below_setRow hb (bM _) (#[aH x.s,aL x.A x.n x.c]:Array aT);have b0:=setRow_heap _ _ _ (#[aH x.s,aL x.A x.n x.c]:Array aT) _ _ a0;have hrq:=Ys hxr a0 (#[aH x.s,aL x.A x.n x.c]:Array aT);clear hres hxr hs;go_wp2_with(first|(with_reducible refine P8 377 (.tmp 22) ?_));refine eL (wpList_store_row D _ _ _ D w.heap.size #[aH x.s,aL x.A x.n x.c] D D _ _ a0 (by kernel_rfl) D (by kernel_rfl) ?_);generalize((wr.alloc (aI #[aH x.s,aL x.A x.n x.c] 377)).setRow w.heap.size #[aH x.s,aL x.A x.n x.c])=w9 at*;have e0:=bL (i:=0) (v:=aH x.s) b0 D;have e1:=bL (i:=1) (v:=aL x.A x.n x.c) b0 D;clear a0 b0 hb d0 d1 k0 k1;go_wp2;exact bR (v:=aM #[aH x.s,aL x.A x.n x.c]) (by simp[results,go_sem,e0,e1]) D ⟨x.A,x.n,x.c,by rw[Hres.out],by rw[Hres.out];exact hrq,hb'⟩
  ·obtain rfl:k=4:=by omega
   have hres:=Gn (F.map (fun r:jb=>((r.s,r.L):uV))) (fun q hq=>by
    obtain⟨r,hr,rfl⟩:=List.mem_map.1 hq
    exact He.out r (by rw[List.take_of_length_le (by rw[HF.out.1];exact bM _)];exact hr))
   rw[HF.out.2] at hres;have Hres:=bK hres;have hb':=below_setRow hb (bM _) (#[aH ⟨#[]⟩,aL J 0 0]:Array aT);have b0:=setRow_heap _ _ _ (#[aH ⟨#[]⟩,aL J 0 0]:Array aT) _ _ a0;clear hres;go_wp2_with(first|(with_reducible refine vR 377 ?_));refine eL ?_;go_wp2_with(first|(with_reducible refine pF 377 ?_));refine eL (wpList_store_row D _ _ _ D w.heap.size #[aH ⟨#[]⟩,aL J 0 0] D D _ _ a0 (by kernel_rfl) D (by kernel_rfl) ?_);generalize(wr.setRow w.heap.size #[aH ⟨#[]⟩,aL J 0 0])=w9 at*;have e0:=bL (i:=0) (v:=aH ⟨#[]⟩) b0 D;have e1:=bL (i:=1) (v:=aL J 0 0) b0 D;clear a0 b0 hb;go_wp2;exact bR (v:=aM #[aH ⟨#[]⟩,aL J 0 0]) (by simp[results,go_sem,e0,e1]) D ⟨J,0,0,by rw[Hres.out];rfl,by rw[Hres.out];exact kR _ _ _,hb'⟩
theorem PL(s:ByteArray)(A:Option aW)(n c:Nat)(w:aS):(Instr.field 377 (aM #[aH s,aL A n c]) 0).run bH w= .ok (aH s) w∧(Instr.field 377 (aM #[aH s,aL A n c]) 1).run bH w= .ok (aL A n c) w:=by
 constructor;all_goals simp[Instr.field,eB,asAgg,part,isAgg,dE rO,dE pK,dE underlying377,go_sem]
theorem R6(id:Int)(w:aS):aU bH 284 #[O Y id] w fun e w'=> ∃(A:Option aW) (n c:Nat),e=aJ (aL A n c)∧RdP w' w'.heap.size A n c (mW id).2∧aV w.heap.size w w':=by
 have hf:=Dq id w;generalize mW id=p at*;have Hf:=bK hf;clear hf;go_enter func284,ntmps284;go_wp2_with fail;go_fit Hf.out;unfold jS;rintro e w1 ⟨A,n,c,rfl,hr,hb⟩;have tg:=fun w=>PL p.1 A n c w;have hf0:=fun w=>(tg w).1;have wo:=fun w=>(tg w).2;clear tg;go_wp2;go_ret;exact⟨A,n,c,D,hr,hb⟩
end
end Go.Proofs.YtfoabhdppkjmbaaGreat
