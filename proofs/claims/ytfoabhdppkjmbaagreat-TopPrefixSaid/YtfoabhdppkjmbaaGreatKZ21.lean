import Derived.Test.YtfoabhdppkjmbaaGreatKZ17
import Derived.Test.YtfoabhdppkjmbaaGreatKZ20
set_option linter.unusedSimpArgs false
set_option linter.unusedVariables false
set_option maxHeartbeats 16000000
set_option maxRecDepth 20000
namespace Go.Proofs.YtfoabhdppkjmbaaGreat
open Bool renaming false→aD,true→aF
open Go renaming Addr→aW,Calls→aU,Ending→aX,TypeId→aY,Value→aT,World→aS,maxLen→bB
open Go.Ending renaming returned→aJ
open Go.IntKind renaming i64→Y,u8→aP
open Go.Obj renaming cells→aI
open Go.Proofs.Tryz renaming prog→bH
open Go.RowKit renaming Below→aV,intOf→bE
open Go.Value renaming agg→aM,bool→aG,int→O,pointer→aK,slice→aL,tuple→aN
open Option renaming none→J,some→aE
open Go.Proofs.Tryz
namespace NumLaw
end NumLaw
section
open Go.RowKit
structure KH where
 sq:Int
 sy:Int
 co:Int
 id:Int
 v:List Int
section
open CrcLaw
def YW(p:uV):Nat:=if p.1.toList.isEmpty=aF then 0 else(moreN 65535 (VL p)% 256)^^^(moreN 65535 (VL p)/256)
theorem mc(p:uV):YX p=(YW p:Int):=by unfold YX YW;split<;>rfl
theorem KT(p:uV):YW p<256:=by
 unfold YW;split
 ·decide
 ·have h:=moreN_lt (VL p) (c:=65535) (by omega);exact Nat.xor_lt_two_pow (n:=8) (by omega) (by omega)
def au(p:uV)(l:List UInt8):Nat:=stepN (moreN 65535 l) (YW p)
theorem az(p:uV)(l:List UInt8):au p l<65536:=stepN_lt (moreN_lt l (by omega)) (KT p)
def O3(p:uV)(l:List UInt8):List UInt8:= [UInt8.ofNat (au p l % 256),UInt8.ofNat (au p l/256)]
end
def Ci(n:Int):UInt8:=UInt8.ofNat (n % 256).toNat
def xH(n:Int):Bool:=decide (0≤n∧n≤255)
def kh(p:KH):Bool:=xH p.sq && xH p.sy && xH p.co
def iy(p:KH):Nat:=if kh p=aF then AP (mW p.id) p.v else 1
def VO(p:KH):List UInt8:= [Ci ((Pz (mW p.id) p.v).length:Int),Ci p.sq,Ci p.sy,Ci p.co,Ci p.id]++Pz (mW p.id) p.v
def wk(p:KH):List UInt8:=if iy p=0 then 254::(VO p++O3 (mW p.id) (VO p)) else []
def vF(id:Int):Nat:=if Gp (mW id).2=0 then 0 else Gp (mW id).2+8
theorem YG(id:Int):((mW id).1.toList.isEmpty=aF∧(mW id).2= []∧Gp (mW id).2=0)∨((mW id).1.toList.isEmpty=aD∧(mW id).2≠ []∧0<Gp (mW id).2∧Gp (mW id).2≤200∧0≤id∧id≤255):=by
 have hM:=(Ot id).2.2;rw[hM];rcases Pa id with⟨hi,hf⟩|⟨hi,hf⟩|⟨hi,hf⟩|⟨hi,hf⟩|⟨hi,hf⟩|⟨hi,hf⟩|⟨hi,hf⟩|⟨hi,hf⟩|⟨hi,hf⟩|⟨hi,hf⟩|⟨hi,hf⟩|⟨hi,hf⟩|⟨hi,hf⟩|⟨hi,hf⟩|⟨hi,hf⟩|⟨hi,hf⟩|⟨hi,hf⟩|⟨hi,hf⟩|⟨hi,hf⟩|⟨hi,hf⟩|⟨hi,hf⟩|⟨hi,hf⟩|⟨hf,_⟩
 all_goals first
  |(rw[hf];exact .inr ⟨by rfl,List.cons_ne_nil _ _,by decide+kernel,by decide+kernel,by omega,by omega⟩)
  |(rw[hf];exact .inl ⟨by rfl,by rfl,by rfl⟩)
def Vm(b:List UInt8):Int:=((b.getD 5 0).toNat:Int)
def C4(b:List UInt8):Nat:=vF (Vm b)
def tT(b:List UInt8):Nat:=if b.length=0 then 2 else if¬b.getD 0 0=254 then 3 else if b.length<6 then 2 else if C4 b=0 then 6 else if¬(b.getD 1 0).toNat+8=C4 b then 3 else if b.length<C4 b then 2 else if¬(b.drop (C4 b-2)).take 2=O3 (mW (Vm b)) ((b.drop 1).take (C4 b-3)) then 4 else 0
def yR(b:List UInt8):List UInt8:=(b.drop 6).take (C4 b-8)
def Ak(b:List UInt8):Nat:=if tT b=0 then RP (mW (Vm b)) (yR b) else tT b
def Db(b:List UInt8):Nat:=if tT b=0 then C4 b else 0
def NU:KH:=⟨0,0,0,0,[]⟩
def Ig(b:List UInt8):KH:=if Ak b=0 then⟨((b.getD 2 0).toNat:Int),((b.getD 3 0).toNat:Int),((b.getD 4 0).toNat:Int),Vm b,NT (mW (Vm b)) (yR b)⟩ else NU
theorem T3{b:List UInt8}(h: ¬b.length<6): ∃x0 x1 x2 x3 x4 x5 r,b=x0::x1::x2::x3::x4::x5::r:=by
 rcases b with _|⟨x0,_|⟨x1,_|⟨x2,_|⟨x3,_|⟨x4,_|⟨x5,r⟩⟩⟩⟩⟩⟩;all_goals first|exact⟨_,_,_,_,_,_,_,D⟩|(simp at h)
def iv(x0 x1 x5:UInt8)(r:List UInt8)(c:List UInt8):Nat:=
 let id:Int:=(x5.toNat:Int)
 if¬x0=254 then 3 else if vF id=0 then 6 else if¬x1.toNat+8=vF id then 3 else if r.length+6<vF id then 2 else if¬(r.drop (vF id-8)).take 2=O3 (mW id) (c++r.take (vF id-8)) then 4 else 0
theorem Pb{id:Int}(h: ¬vF id=0):8<vF id:=by
 unfold vF at h ⊢;split
 ·rename_i h1;rw[bY h1] at h;exact absurd D h
 ·omega
theorem Bn(x0 x1 x2 x3 x4 x5:UInt8)(r:List UInt8):tT (x0::x1::x2::x3::x4::x5::r)=iv x0 x1 x5 r [x1,x2,x3,x4,x5]:=by
 unfold tT iv;rw[bX (by simp)];show(if¬x0=254 then 3 else _)=_;by_cases h0:x0=254
 ·have n0: ¬¬x0=254:=fun h=>h h0;rw[bX n0,bX n0,bX (by simp)];show(if vF (x5.toNat:Int)=0 then 6 else _)=_;by_cases h1:vF (x5.toNat:Int)=0
  ·rw[bY h1,bY h1]
  ·have hn:=Pb h1;rw[bX h1,bX h1];show(if¬x1.toNat+8=vF (x5.toNat:Int) then 3 else _)=_;by_cases h2:x1.toNat+8=vF (x5.toNat:Int)
   ·have n2: ¬¬x1.toNat+8=vF (x5.toNat:Int):=fun h=>h h2;rw[bX n2,bX n2];have e1:(x0::x1::x2::x3::x4::x5::r).length=r.length+6:=by simp
    rw[e1];show(if r.length+6<vF (x5.toNat:Int) then 2 else _)=_;by_cases h3:r.length+6<vF (x5.toNat:Int)
    ·rw[bY h3,bY h3]
    ·rw[bX h3,bX h3];have e2:(x0::x1::x2::x3::x4::x5::r).drop (C4 (x0::x1::x2::x3::x4::x5::r)-2)=r.drop (vF (x5.toNat:Int)-8):=by show(x0::x1::x2::x3::x4::x5::r).drop (vF (x5.toNat:Int)-2)=_;rw[show vF (x5.toNat:Int)-2=(vF (x5.toNat:Int)-8)+6 by omega];rfl
     have e3:((x0::x1::x2::x3::x4::x5::r).drop 1).take (C4 (x0::x1::x2::x3::x4::x5::r)-3)= [x1,x2,x3,x4,x5]++r.take (vF (x5.toNat:Int)-8):=by show((x0::x1::x2::x3::x4::x5::r).drop 1).take (vF (x5.toNat:Int)-3)=_;rw[show vF (x5.toNat:Int)-3=(vF (x5.toNat:Int)-8)+5 by omega];rfl
     rw[e2,e3];rfl
   ·rw[bY h2,bY h2]
 ·rw[bY h0,bY h0]
theorem Qx(x0 x1 x2 x3 x4 x5:UInt8)(r:List UInt8):yR (x0::x1::x2::x3::x4::x5::r)=r.take (vF (x5.toNat:Int)-8):=rfl
theorem AW{b:List UInt8}(h:tT b=0): ∃x1 x2 x3 x4 x5 r,b=254::x1::x2::x3::x4::x5::r∧8<C4 b∧x1.toNat+8=C4 b∧C4 b≤b.length∧(r.drop (C4 b-8)).take 2=O3 (mW (Vm b)) ([x1,x2,x3,x4,x5]++r.take (C4 b-8)):=by
 have h6: ¬b.length<6:=fun h6=>by
  have hh:tT b=2∨tT b=3:=by
   unfold tT;by_cases a:b.length=0
   ·exact .inl (bY a)
   ·rw[bX a];by_cases c:b.getD 0 0=254
    ·have n0: ¬¬b.getD 0 0=254:=fun h=>h c;rw[bX n0,bY h6];exact .inl D
    ·rw[bY c];exact .inr D
  omega
 obtain⟨x0,x1,x2,x3,x4,x5,r,rfl⟩:=T3 h6;rw[Bn] at h;unfold iv at h;dsimp only at h;by_cases h0:x0=254
 ·rw[bX (fun h=>h h0)] at h;by_cases h1:vF (x5.toNat:Int)=0
  ·rw[bY h1] at h;cases h
  ·have hn:=Pb h1;rw[bX h1] at h;by_cases h2:x1.toNat+8=vF (x5.toNat:Int)
   ·rw[bX (fun h=>h h2)] at h;by_cases h3:r.length+6<vF (x5.toNat:Int)
    ·rw[bY h3] at h;cases h
    ·rw[bX h3] at h;by_cases h4:(r.drop (vF (x5.toNat:Int)-8)).take 2=O3 (mW (x5.toNat:Int)) ([x1,x2,x3,x4,x5]++r.take (vF (x5.toNat:Int)-8))
     ·subst h0;exact⟨x1,x2,x3,x4,x5,r,D,hn,h2,by show vF (x5.toNat:Int)≤_;simp;omega,h4⟩
     ·rw[bY h4] at h;cases h
   ·rw[bY h2] at h;cases h
 ·rw[bY h0] at h;cases h
theorem YS(b:List UInt8):Db b≤b.length:=by
 unfold Db;split
 ·rename_i h;obtain⟨_,_,_,_,_,_,_,_,_,h3,_⟩:=AW h;exact h3
 ·exact fT _
theorem Sc{b:List UInt8}(m:List UInt8)(hE2: ¬tT b=2):Ak (b++m)=Ak b∧Db (b++m)=Db b∧Ig (b++m)=Ig b:=by
 by_cases h0:b.length=0
 ·exact absurd (by unfold tT;rw[bY h0]) hE2
 obtain⟨x0,b',rfl⟩: ∃x0 b',b=x0::b':=by
  cases b with
  |nil=>exact absurd D h0
  |cons x l=>exact⟨x,l,D⟩
 by_cases hx:x0=254
 case neg=>
  have e1: ∀l,tT (x0::l)=3:=fun l=>by unfold tT;rw[bX (by simp)];show(if¬x0=254 then 3 else _)=3;rw[bY hx]
  have e2: ∀l,Ak (x0::l)=3:=fun l=>by unfold Ak;rw[e1,bX (by omega)]
  have e3: ∀l,Db (x0::l)=0:=fun l=>by unfold Db;rw[e1,bX (by omega)]
  have e4: ∀l,Ig (x0::l)=NU:=fun l=>by unfold Ig;rw[e2,bX (by omega)]
  rw[dS,e2,e2,e3,e3,e4,e4];exact⟨D,D,D⟩
 by_cases h6:(x0::b').length<6
 ·exact absurd (by unfold tT;rw[bX (by simp),bX (fun h=>h hx),bY h6]) hE2
 obtain⟨y0,x1,x2,x3,x4,x5,r,hb⟩:=T3 h6;rw[hb] at hE2 ⊢;have CM:(y0::x1::x2::x3::x4::x5::r)++m=y0::x1::x2::x3::x4::x5::(r++m):=D
 have key:tT (y0::x1::x2::x3::x4::x5::(r++m))=tT (y0::x1::x2::x3::x4::x5::r)∧(tT (y0::x1::x2::x3::x4::x5::r)=0→vF (x5.toNat:Int)≤r.length+6):=by
  rw[Bn] at hE2;rw[Bn,Bn];unfold iv at hE2 ⊢;dsimp only at hE2 ⊢;by_cases g0:y0=254
  case neg=>rw[bY g0,bY g0];exact⟨D,fun h=>by cases h⟩
  have n0: ¬¬y0=254:=fun h=>h g0;rw[bX n0] at hE2;rw[bX n0,bX n0];by_cases g1:vF (x5.toNat:Int)=0
  ·rw[bY g1,bY g1];exact⟨D,fun h=>by cases h⟩
  have hn:=Pb g1;rw[bX g1] at hE2;rw[bX g1,bX g1];by_cases g2:x1.toNat+8=vF (x5.toNat:Int)
  case neg=>rw[bY g2,bY g2];exact⟨D,fun h=>by cases h⟩
  have n2: ¬¬x1.toNat+8=vF (x5.toNat:Int):=fun h=>h g2;rw[bX n2] at hE2;rw[bX n2,bX n2];by_cases g3:r.length+6<vF (x5.toNat:Int)
  ·rw[bY g3] at hE2;exact absurd D hE2
  rw[bX (show¬(r++m).length+6<vF (x5.toNat:Int) by simp;omega),bX g3];have e1:(r++m).take (vF (x5.toNat:Int)-8)=r.take (vF (x5.toNat:Int)-8):=fW (by omega);have e2:((r++m).drop (vF (x5.toNat:Int)-8)).take 2=(r.drop (vF (x5.toNat:Int)-8)).take 2:=by rw[List.drop_append_of_le_length (by omega),fW (by rw[iA];omega)]
  rw[e1,e2];exact⟨D,fun _=>by omega⟩
 rw[CM];have kB:tT (y0::x1::x2::x3::x4::x5::r)=0→yR (y0::x1::x2::x3::x4::x5::(r++m))=yR (y0::x1::x2::x3::x4::x5::r):=fun hz=>by rw[Qx,Qx];exact fW (by have:=key.2 hz;omega)
 have kE:Ak (y0::x1::x2::x3::x4::x5::(r++m))=Ak (y0::x1::x2::x3::x4::x5::r):=by
  unfold Ak;rw[key.1];by_cases hz:tT (y0::x1::x2::x3::x4::x5::r)=0
  ·rw[bY hz,bY hz,kB hz];rfl
  ·rw[bX hz,bX hz]
 refine⟨kE,by unfold Db;rw[key.1];rfl,?_⟩;unfold Ig;rw[kE];by_cases hz:Ak (y0::x1::x2::x3::x4::x5::r)=0
 ·have WR:tT (y0::x1::x2::x3::x4::x5::r)=0:=by
   unfold Ak at hz;split at hz
   ·rename_i h1;exact h1
   ·exact hz
  rw[bY hz,bY hz,kB WR];rfl
 ·rw[bX hz,bX hz]
end
section
open Go.RowKit NumLaw
structure wX where
 proto:Nat
 odd:Bool
 u:Ed
 n:En
 p:KH
def nA:wX:=⟨0,aD,kH,nm0,NU⟩
structure yY where
 do_:Nat
 proto:Nat
 size:Nat
 why:Nat
 it:wX
def sA(proto n e:Nat)(x:wX):yY:=
 if 0<n∧e≠0 then⟨2,proto,n,e,{ nA with proto:=proto,odd:=true }⟩ else
 if 0<n then⟨2,proto,n,0,x⟩ else
 if e=2 then⟨0,proto,0,0,nA⟩ else⟨1,proto,0,e,nA⟩
theorem Ff{proto n e:Nat}{x:wX}(h:(sA proto n e x).do_≠0):0<n∨e≠2:=by
 unfold sA at h;by_cases h1:0<n
 ·exact .inl h1
 ·rw[bX (fun h=>h1 h.1),bX h1] at h;by_cases h2:e=2
  ·rw[bY h2] at h;exact absurd D h
  ·exact .inr h2
theorem F3(proto n e:Nat)(x:wX):(sA proto n e x).size≤n:=by
 unfold sA
 repeat' split
 all_goals first|exact bM _|exact fT _
def xI(c:UInt8):Nat:=if c=181 then 1 else if c=36 then 2 else if c=254 then 3 else 0
theorem QS(c:UInt8):xI c≤3:=by
 unfold xI
 repeat' split
 all_goals decide
def Gy(t:List UInt8):Nat:=if(mT t).err=0 then vQ (mT t) else(mT t).err
def Da(t:List UInt8):En:=if(mT t).err=0 then o7 (mT t) else nm0
def wK(b:List UInt8):yY:=
 match b with
 | []=>⟨0,0,0,0,nA⟩
 |c::l=>
  if xI c=0 then⟨1,0,0,3,nA⟩ else
  if xI c=1 then sA 1 (Be (c::l)) (Cx (c::l)) { nA with proto:=1,u:=Ay (c::l) } else
  if xI c=2 then sA 2 (mT ((c::l).take 82)).size (Gy ((c::l).take 82)) { nA with proto:=2,n:=Da ((c::l).take 82) } else
  sA 3 (Db (c::l)) (Ak (c::l)) { nA with proto:=3,p:=Ig (c::l) }
theorem Xu(b:List UInt8):(wK b).size≤b.length:=by
 unfold wK;split
 ·exact fT _
 ·repeat' split
  ·exact fT _
  ·exact bU (F3 _ _ _ _) (QD _)
  ·exact bU (F3 _ _ _ _) (bU (IA _) (List.length_take_le' _ _))
  ·exact bU (F3 _ _ _ _) (YS _)
theorem AJ(b m:List UInt8)(h:0<Be b∨Cx b≠2):Be (b++m)=Be b∧Cx (b++m)=Cx b∧Ay (b++m)=Ay b:=by
 have hf:(gE b).err≠2:=by
  intro e;rcases h with h|h
  ·unfold Be at h;rw[bX (by omega)] at h;omega
  ·unfold Cx at h;rw[bX (by omega)] at h;exact h e
 have:=Lg b m hf;unfold Be Cx Ay;rw[this];exact⟨D,D,D⟩
theorem BM(b m:List UInt8)(h:0<Db b∨Ak b≠2):Db (b++m)=Db b∧Ak (b++m)=Ak b∧Ig (b++m)=Ig b:=by
 have hf: ¬tT b=2:=by
  intro e;rcases h with h|h
  ·unfold Db at h;rw[bX (by omega)] at h;omega
  ·unfold Ak at h;rw[bX (by omega)] at h;exact h e
 have:=Sc m hf;exact⟨this.2.1,this.1,this.2.2⟩
theorem Zr(t m:List UInt8)(h:0<(mT t).size∨Gy t≠2):mT (t++m)=mT t:=by
 refine V1 t m fun e=> ?_;rcases h with h|h
 ·rw[Mb t (by omega)] at h;omega
 ·unfold Gy at h;rw[bX (by omega)] at h;exact h e
theorem BX(b m:List UInt8)(h:(wK b).do_≠0):wK (b++m)=wK b:=by
 cases b with
 |nil=>exact absurd D h
 |cons c l=>
  have e1:wK (c::l++m)=(if xI c=0 then⟨1,0,0,3,nA⟩ else
   if xI c=1 then sA 1 (Be (c::l++m)) (Cx (c::l++m)) { nA with proto:=1,u:=Ay (c::l++m) } else
   if xI c=2 then sA 2 (mT ((c::l++m).take 82)).size (Gy ((c::l++m).take 82)) { nA with proto:=2,n:=Da ((c::l++m).take 82) } else
   sA 3 (Db (c::l++m)) (Ak (c::l++m)) { nA with proto:=3,p:=Ig (c::l++m) }):=D
  have e2:wK (c::l)=(if xI c=0 then⟨1,0,0,3,nA⟩ else
   if xI c=1 then sA 1 (Be (c::l)) (Cx (c::l)) { nA with proto:=1,u:=Ay (c::l) } else
   if xI c=2 then sA 2 (mT ((c::l).take 82)).size (Gy ((c::l).take 82)) { nA with proto:=2,n:=Da ((c::l).take 82) } else
   sA 3 (Db (c::l)) (Ak (c::l)) { nA with proto:=3,p:=Ig (c::l) }):=D
  rw[e2] at h;rw[e1,e2];by_cases h0:xI c=0
  ·rw[bY h0,bY h0]
  ·rw[bX h0] at h;rw[bX h0,bX h0];by_cases h1:xI c=1
   ·rw[bY h1] at h;obtain⟨a1,a2,a3⟩:=AJ (c::l) m (Ff h);rw[bY h1,bY h1,a1,a2,a3]
   ·rw[bX h1] at h;rw[bX h1,bX h1];by_cases h2:xI c=2
    ·rw[bY h2] at h;rw[bY h2,bY h2];have ht:(c::l++m).take 82=(c::l).take 82++m.take (82-(c::l).length):=List.take_append;have hs:=Zr ((c::l).take 82) (m.take (82-(c::l).length)) (Ff h);rw[ht];unfold Gy Da;rw[hs]
    ·rw[bX h2] at h;obtain⟨a1,a2,a3⟩:=BM (c::l) m (Ff h);rw[bX h2,bX h2,a1,a2,a3]
def kV:Nat→List UInt8→Nat→List (yY × Nat)
 |0,_,_=> []
 |f+1,b,k=>if(wK (b.drop k)).do_=0 then [(wK (b.drop k),k)] else(wK (b.drop k),k)::kV f b (k+max (wK (b.drop k)).size 1)
theorem O9{b:List UInt8}{k:Nat}(h:b.length≤k):(wK (b.drop k)).do_=0:=by rw[gF h];rfl
theorem qU(f:Nat)(b:List UInt8)(k:Nat):kV (f+1) b k=if(wK (b.drop k)).do_=0 then [(wK (b.drop k),k)] else(wK (b.drop k),k)::kV f b (k+max (wK (b.drop k)).size 1):=rfl
theorem Ct{b:List UInt8}{k:Nat}(h:k<b.length):k+max (wK (b.drop k)).size 1≤b.length:=by
 have:=Xu (b.drop k);rw[iA] at this;omega
theorem Fy: ∀(f:Nat) (b:List UInt8) (k:Nat),k≤b.length→b.length-k<f→∃X w e,kV f b k=X++ [(w,e)]∧w.do_=0∧k≤e∧e≤b.length
 |0,b,k,_,h=>by omega
 |f+1,b,k,hk,h=>by
  unfold kV;by_cases h0:(wK (b.drop k)).do_=0
  ·rw[bY h0];exact⟨[],_,k,D,h0,bM _,hk⟩
  ·rw[bX h0]
   have fF:k<b.length:=by
    rcases iD k b.length with h1|h1
    ·exact h1
    ·exact absurd (O9 h1) h0
   obtain⟨X,w,e,h1,h2,h3,h4⟩:=Fy f b (k+max (wK (b.drop k)).size 1) (Ct fF) (by omega);exact⟨(wK (b.drop k),k)::X,w,e,by rw[h1];rfl,h2,by omega,h4⟩
theorem Mv: ∀(f:Nat) (p m:List UInt8) (k g:Nat),k≤p.length→p.length-k<f→(p++m).length-k<g→
  ∃X w e g',kV f p k=X++ [(w,e)]∧w.do_=0∧k≤e∧e≤p.length∧kV g (p++m) k=X++kV g' (p++m) e∧(p++m).length-e<g'
 |0,p,m,k,g,_,h,_=>by omega
 |f+1,p,m,k,g,hk,h,hg=>by
  by_cases h0:(wK (p.drop k)).do_=0
  ·refine⟨[],wK (p.drop k),k,g,?_,h0,bM _,hk,D,hg⟩;show kV (f+1) p k=_;unfold kV;rw[bY h0];rfl
  ·have fF:k<p.length:=by
    rcases iD k p.length with h1|h1
    ·exact h1
    ·exact absurd (O9 h1) h0
   obtain⟨g0,rfl⟩: ∃g0,g=g0+1:=⟨g-1,by omega⟩;have hd:(p++m).drop k=p.drop k++m:=List.drop_append_of_le_length hk;have hv:=BX (p.drop k) m h0;have hn:=Ct fF;rw[cZ] at hg;obtain⟨X,w,e,g',h1,h2,h3,h4,h5,h6⟩:=Mv f p m (k+max (wK (p.drop k)).size 1) g0 hn (by omega) (by rw[cZ];omega);refine⟨(wK (p.drop k),k)::X,w,e,g',?_,h2,by omega,h4,?_,h6⟩
   ·have:=qU f p k;rw[this,bX h0,h1,dS]
   ·have:=qU g0 (p++m) k;rw[this,hd,hv,bX h0,h5,dS]
def fB(l:List (yY × Nat)):List wX:=(l.filter fun s=>s.1.do_==2).map fun s=>s.1.it
def kJ(l:List (yY × Nat)):List Nat:=(l.filter fun s=>s.1.do_==1).map fun s=>s.1.proto
def uO(l:List (yY × Nat)):Nat:=(l.getLast?.map Prod.snd).getD 0
def Bc(l:List wX)(p:Nat):Nat:=(l.filter fun x=> !x.odd && x.proto==p).length
def Ik(l:List wX)(p:Nat):Nat:=(l.filter fun x=>x.odd && x.proto==p).length
def Jh(l:List Nat)(p:Nat):Nat:=(l.filter fun x=>x==p).length
theorem Fp(a b:List (yY × Nat)):fB (a++b)=fB a++fB b:=by simp[fB]
theorem Fe(a b:List (yY × Nat)):kJ (a++b)=kJ a++kJ b:=by simp[kJ]
theorem LA(a b:List wX)(p:Nat):Bc (a++b) p=Bc a p+Bc b p:=by simp[Bc]
theorem SF(a b:List wX)(p:Nat):Ik (a++b) p=Ik a p+Ik b p:=by simp[Ik]
theorem TY(a b:List Nat)(p:Nat):Jh (a++b) p=Jh a p+Jh b p:=by simp[Jh]
def gW(b:List UInt8):List (yY × Nat):=kV (b.length+1) b 0
theorem Uy(b:List UInt8)(n:Nat)(hn:n≤b.length):
  (fB (gW (b.take n))).length≤(fB (gW b)).length∧(fB (gW b)).take (fB (gW (b.take n))).length=fB (gW (b.take n))∧
  (∀p,Bc (fB (gW (b.take n))) p≤Bc (fB (gW b)) p∧Ik (fB (gW (b.take n))) p≤Ik (fB (gW b)) p∧Jh (kJ (gW (b.take n))) p≤Jh (kJ (gW b)) p)∧
  uO (gW (b.take n))≤n∧uO (gW b)≤b.length∧uO (gW (b.take n))≤uO (gW b):=by
 have hl:(b.take n).length=n:=List.length_take_of_le hn;have hb:b.take n++b.drop n=b:=nJ n b;obtain⟨X,w,e,g',h1,h2,h3,h4,h5,h6⟩:=Mv (n+1) (b.take n) (b.drop n) 0 (b.length+1) (fT _) (by omega) (by rw[hb];omega);rw[hb] at h5 h6;obtain⟨aC,v,d,k1,k2,k3,k4⟩:=Fy g' b e (by omega) h6;have hp:gW (b.take n)=X++ [(w,e)]:=by unfold gW;rw[hl];exact h1
 have hq:gW b=X++(aC++ [(v,d)]):=by unfold gW;rw[h5,k1]
 have i1:fB (gW (b.take n))=fB X:=by rw[hp,Fp];simp[fB,h2]
 have i2:fB (gW b)=fB X++fB (aC++ [(v,d)]):=by rw[hq,Fp]
 have d1:kJ (gW (b.take n))=kJ X:=by rw[hp,Fe];simp[kJ,h2]
 have d2:kJ (gW b)=kJ X++kJ (aC++ [(v,d)]):=by rw[hq,Fe]
 have e1:uO (gW (b.take n))=e:=by rw[hp];simp[uO]
 have e2:uO (gW b)=d:=by rw[hq,←gA];simp[uO]
 rw[i1,i2,d1,d2,e1,e2];refine⟨by rw[cZ];omega,by rw[List.take_left],fun p=> ?_,by omega,k4,k3⟩;rw[LA,SF,TY];omega
end
section
open Go.RowKit NumLaw
attribute [local go_sem] Addr.add_mid
attribute [-go_sem] run_eql_struct run_neq_struct
theorem ZK(id:Int):(0<Gp (mW id).2→vF id=Gp (mW id).2+8)∧(¬0<Gp (mW id).2→vF id=0):=by
 unfold vF;constructor
 ·intro h;rw[bX (by omega)]
 ·intro h;rw[bY (by omega)]
theorem Wm(id:Int):Gp (mW id).2≤200:=by
 rcases YG id with⟨_,_,h⟩|⟨_,_,_,h,_⟩<;>omega
theorem Z7(id:Int)(w:aS):aU bH 181 #[O Y id] w fun e w'=>e=aJ (O Y (vF id:Int))∧aV w.heap.size w w':=by
 have hw:=AN id w;have h2:=Wm id;obtain⟨e1,e2⟩:=ZK id;have E1:=bK e1;have E2:=bK e2;generalize Gp (mW id).2=W at*;have Hw:=bK hw;clear hw e1 e2;by_cases h0:0<W
 ·have qb:(0:Int)<(W:Int):=by omega
  have hv:=E1.out h0;have Hv:=bK hv;clear hv;go_enter func181,ntmps181;go_wp2_with fail;go_fit Hw.out;rintro e w1 ⟨rfl,hb⟩;go_wp2;go_ret;exact⟨by rw[Hv.out];go_num,hb⟩
 ·have qb: ¬(0:Int)<(W:Int):=by omega
  have hv:=E2.out h0;have Hv:=bK hv;clear hv;go_enter func181,ntmps181;go_wp2_with fail;go_fit Hw.out;rintro e w1 ⟨rfl,hb⟩;go_wp2;go_ret;exact⟨by rw[Hv.out];rfl,hb⟩
theorem Uh(A:Option aW)(n c:Nat)(vs:List Int)(w:aS)(h:Rd w w.heap.size 1 A n c (vs.map (Value.int Y))):
  aU bH 160 #[aL A n c] w fun e w'=>e=aJ (aG (vs.all xH))∧aV w.heap.size w w':=by
 have hl:vs.length=n:=by have:=h.len;simpa using this
 have hmx:=h.max;have hle:=h.le;unfold bB at hmx;have Hl:=bK hl;clear hl;go_enter func160,ntmps160;go_wp2_with fail;go_loopw [7] (fun i wr=> ∃k:Nat,k≤n∧i=O Y k∧aV w.heap.size w wr∧Hid ((vs.take k).all xH=aF)) (fun i _=>n-(bE i).toNat);case atStart=>exact⟨0,by omega,D,bP _ _,bK D⟩
 case round=>
  obtain⟨k,hk,rfl,hb,Ht⟩:=hrel;by_cases fF:k<n
  ·have z7:(k:Int)<(n:Int):=by omega
   obtain⟨ad,x,rfl,hx,hc,DB⟩:=Fc h fF;have kx:=(hb.cell (p:=ad.add k) (by rw[lL];exact DB)).trans hc;have wv:=fD hx;obtain⟨y,hy⟩: ∃y,y=x % 256:=⟨_,D⟩;have NW:IntKind.u8.wrap x=y:=hy.symm;have J4:wrap64 y=y:=by unfold wrap64;omega
   by_cases hq:xH x=aF
   ·have hx2:x % 256=x:=by unfold xH at hq;have:=eZ hq;omega
    have Ht2:Hid ((vs.take (k+1)).all xH=aF):=bK (by rw[wv,lJ,Ht.out,List.all_cons,hq];rfl);have hne:(x !=y)=aD:=by rw[hy,hx2];simp
    clear hx wv hq hc hx2 hy;go_wp2;go_roundw;case rel=>exact⟨k+1,by omega,by go_num,hb,Ht2⟩
    case measure=>simp[bE];omega
   ·have hx2: ¬x=x % 256:=by
     intro hh;refine hq ?_;unfold xH;exact dU (by omega)
    have hqf:xH x=aD:=by cases hb:xH x with|true=>exact absurd hb hq|false=>rfl
    have hv:vs.all xH=aD:=by
     cases hh:vs.all xH with
     |false=>rfl
     |true=>exact absurd hh (RO hx hqf)
    have Hv:=bK hv;have hne:(x !=y)=aF:=by rw[hy];simp;exact hx2
    clear hx wv hq hqf hc hx2 hv hy;go_wp2;go_ret;exact⟨by rw[Hv.out];rfl,hb⟩
  ·obtain rfl:k=n:=by omega
   have hv:vs.all xH=aF:=by
    have:=Ht.out
    rwa[List.take_of_length_le (by rw[Hl.out];exact bM _)] at this
   have Hv:=bK hv;clear hv;go_wp2;go_ret;exact⟨by rw[Hv.out];rfl,hb⟩
theorem Si(id:Int)(A:Option aW)(n c B:Nat)(l:List UInt8)(w:aS)(h:Rd w B 1 A n c (bv l))(hB:B≤w.heap.size):
  aU bH 163 #[O Y id,aL A n c] w (RetB w (O3 (mW id) l)):=by
 have fF:=CrcLaw.moreN_lt l (c:=65535) (by omega);have H:=BA _ _ _ _ _ _ (RdL.lit1 (e:=22) hB h) (by simp);simp only[cL,kG,List.flatten_nil,List.append_nil] at H;have hx:=fun w=>CE id w;rw[mc] at hx;have WS:=KT (mW id);have hs:au (mW id) l=CrcLaw.stepN (CrcLaw.moreN 65535 l) (YW (mW id)):=D;have Kl:=az (mW id) l;have hs2:O3 (mW id) l= [UInt8.ofNat (au (mW id) l % 256),UInt8.ofNat (au (mW id) l/256)]:=D;generalize YW (mW id)=x at*;generalize CrcLaw.moreN 65535 l=m at*;have HH:=bK H;have Hx:=bK hx;have hst:=fun w=>Sv m x w fF WS;rw[←hs] at hst;generalize au (mW id) l=q at*;have Hst:=bK hst;have Hs2:=bK hs2;clear H hx hst hs hs2;go_enter func163,ntmps163;go_wp2_with fail;go_fit HH.out;rintro e w1 ⟨rfl,hb1⟩;have hb1:=zh (bP _ _) hb1;go_wp2_with fail;go_fit(Hx.out w1);rintro e w2 ⟨rfl,hbx⟩;have hb2:=eI hb1 hbx;go_wp2_with fail;go_fit(Hst.out w2);rintro e w3 ⟨rfl,rfl⟩;have h1:((q % 256:Nat):Int)=(q:Int)% 256:=by omega
 have h2:((q/256:Nat):Int)% 256=((q/256:Nat):Int):=by omega
 have own:=Ob w2 w.heap.size 5 (bv (O3 (mW id) l)) hb2.size (by rw[Hs2.out];simp[bv,bB])
 have nB:(bv (O3 (mW id) l)).toArray= #[O aP ((q:Int)% 256),O aP ((q:Int)/256)]:=by
  rw[Hs2.out];have e1:(UInt8.ofNat (q % 256)).toNat=q % 256:=by rw[iT];omega
  have e2:(UInt8.ofNat (q/256)).toNat=q/256:=by rw[iT];omega
  simp[bv,e1,e2]
 have xT:(bv (O3 (mW id) l)).length=2:=by rw[Hs2.out];rfl
 rw[xT,nB] at own;have Hown:=bK own;have hb3:aV w.heap.size w (w2.alloc (aI #[O aP ((q:Int)% 256),O aP ((q:Int)/256)] 5)):=hb2.alloc hb2.size _;clear own nB xT hb1 hb2 hbx h1 h2;go_wp2;go_ret;exact⟨_,_,2,D,Hown.out,hb3⟩
theorem V4(A:Option aW)(n c B:Nat)(l:List UInt8)(A':Option aW)(n' c' B':Nat)(l':List UInt8)(w:aS)(h:Rd w B 1 A n c (bv l))(hB:B≤w.heap.size)(h':Rd w B' 1 A' n' c' (bv l'))(G3:B'≤w.heap.size):
  aU bH 183 #[aL A n c,aL A' n' c'] w fun e w'=>e=aJ (aG (decide (l=l')))∧aV w.heap.size w w':=by
 replace h:=h.more hB;replace h':=h'.more G3;have Hl:=bK h.blen;have Hl':=bK h'.blen;have hmx:=h.max;have hle:=h.le;have Pv:=h'.max;have VF:=h'.le;unfold bB at hmx Pv;clear hB G3;by_cases hn:n=n'
 case neg=>
  have hv:decide (l=l')=aD:=dN (fun e=>hn (by rw[←Hl.out,←Hl'.out,e]));have Hv:=bK hv;have DA: ¬(n:Int)=(n':Int):=by omega
  have jj:((n:Int) !=(n':Int))=aF:=by simp;omega
  clear hv;go_enter func183,ntmps183;go_wp2;go_ret;exact⟨by rw[Hv.out];rfl,bP _ _⟩
 subst hn;have WU:((n:Int) !=(n:Int))=aD:=by simp
 go_enter func183,ntmps183;go_wp2_with fail;go_loopw [13] (fun i wr=> ∃k:Nat,k≤n∧i=O Y k∧aV w.heap.size w wr∧Hid (l.take k=l'.take k)) (fun i _=>n-(bE i).toNat);case atStart=>exact⟨0,by omega,D,bP _ _,bK D⟩
 case round=>
  obtain⟨k,hk,rfl,hb,Ht⟩:=hrel;by_cases fF:k<n
  ·have z7:(k:Int)<(n:Int):=by omega
   obtain⟨ad,x,rfl,hx,hc⟩:=h.byte fF;obtain⟨ad',y,rfl,hy,hc'⟩:=h'.byte fF;obtain⟨_,e1,hb1,_⟩:=h.at_ (by omega);injection e1 with e1;subst e1;obtain⟨_,e1,hb2,_⟩:=h'.at_ (by omega);injection e1 with e1;subst e1;have Hx:=bK (show∀wq,aV w.heap.size w wq→wq.cell? (ad.add k)=aE (O aP (x.toNat:Int)) from fun wq hbq=>(hbq.cell (p:=ad.add k) (by rw[lL];exact hb1)).trans hc);have Hy:=bK (show∀wq,aV w.heap.size w wq→wq.cell? (ad'.add k)=aE (O aP (y.toNat:Int)) from fun wq hbq=>(hbq.cell (p:=ad'.add k) (by rw[lL];exact hb2)).trans hc');have Htx:=bK (fD hx);have Hty:=bK (fD hy);have Hne:=bK (FW hx hy);clear hx hy hc hc' hb1 hb2;go_wp2_with fail;refine cQ (fun w'=>aV w.heap.size w w') aD [] (by kernel_rfl) (by kernel_rfl) hb.drew ?_;replace hb:=hb.drew;generalize wr.drew=wd at*;iterate 3 refine Ord.K ?_
   refine cR (ad:=ad.add k) underlying5 D (fun w' hS=>Hx.out w' hS) hb D (by kernel_rfl) ?_;refine PT ?_;iterate 3 refine Ord.K ?_
   refine cR (ad:=ad'.add k) underlying5 D (fun w' hS=>Hy.out w' hS) hb D (by kernel_rfl) ?_;refine PT ?_;by_cases hxy:x=y
   ·subst hxy;have hq:(((x.toNat:Int)) !=(x.toNat:Int))=aD:=by simp
    refine Ord.e_p (v:=aG aD) D (by kernel_rfl) (fun w2=>by go_simp) ?_;refine PT ?_;refine cV ?_;have Ht2:Hid (l.take (k+1)=l'.take (k+1)):=bK (by rw[Htx.out,Hty.out,Ht.out]);go_wp2;go_roundw;case rel=>exact⟨k+1,by omega,by go_num,hb,Ht2⟩
    case measure=>simp[bE];omega
   ·have hne: ¬x.toNat=y.toNat:=fun e=>hxy (UInt8.toNat_inj.1 e);have aCz: ¬(x.toNat:Int)=(y.toNat:Int):=by omega
    have hq:(((x.toNat:Int)) !=(y.toNat:Int))=aF:=by simp;exact aCz
    refine Ord.e_p (v:=aG aF) D (by kernel_rfl) (fun w2=>by go_simp) ?_;refine PT ?_;refine cV ?_;have hv:decide (l=l')=aD:=dN (Hne.out hxy);have Hv:=bK hv;clear hv;go_wp2;go_ret;exact⟨by rw[Hv.out];rfl,hb⟩
  ·obtain rfl:k=n:=by omega
   have hv:decide (l=l')=aF:=dU (by
    have:=Ht.out
    rwa[List.take_of_length_le (by rw[Hl.out];exact bM _),List.take_of_length_le (by rw[Hl'.out];exact bM _)] at this)
   have Hv:=bK hv;clear hv;go_wp2;go_ret;exact⟨by rw[Hv.out];rfl,hb⟩
theorem Ej(n:Int):IntKind.u8.wrap n=((Ci n).toNat:Int):=by
 show n % 256=_;unfold Ci;rw[iT];omega
def PkB(p:KH):Prop:=(-9223372036854775808≤p.sq∧p.sq≤9223372036854775807)∧(-9223372036854775808≤p.sy∧p.sy≤9223372036854775807)∧(-9223372036854775808≤p.co∧p.co≤9223372036854775807)∧(-9223372036854775808≤p.id∧p.id≤9223372036854775807)∧∀x∈p.v,-9223372036854775808≤x∧x≤9223372036854775807
theorem SU{p:KH} :(VO p).length=(Pz (mW p.id) p.v).length+5:=by unfold VO;simp
theorem SX{id:Int}{v:List Int} :(Pz (mW id) v).length≤200:=by
 by_cases h:AP (mW id) v=0
 ·have h1:=(TO (Qu id).1 h).2.2.1;have:=Wm id;omega
 ·rw[RL h];exact fT _
theorem BI(sq sy co id:Int)(A:Option aW)(n c:Nat)(v:List Int)(w:aS)(h:Rd w w.heap.size 1 A n c (v.map (Value.int Y)))(hB:PkB ⟨sq,sy,co,id,v⟩):
  aU bH 132 #[aM #[O Y sq,O Y sy,O Y co,O Y id,aL A n c]] w (Yq w (wk ⟨sq,sy,co,id,v⟩) (iy ⟨sq,sy,co,id,v⟩)):=by
 have hok:kh ⟨sq,sy,co,id,v⟩= [sq,sy,co].all xH:=by unfold kh;simp[Bool.and_assoc]
 have hE:iy ⟨sq,sy,co,id,v⟩=if kh ⟨sq,sy,co,id,v⟩=aF then AP (mW id) v else 1:=D;have hBt:wk ⟨sq,sy,co,id,v⟩=if iy ⟨sq,sy,co,id,v⟩=0 then 254::(VO ⟨sq,sy,co,id,v⟩++O3 (mW id) (VO ⟨sq,sy,co,id,v⟩)) else []:=D;have hI:VO ⟨sq,sy,co,id,v⟩= [Ci ((Pz (mW id) v).length:Int),Ci sq,Ci sy,Ci co,Ci id]++Pz (mW id) v:=D;have xu:= @SU ⟨sq,sy,co,id,v⟩;have Am:= @SX id v;have hp:=fun A n c w h=>AZ id A n c v w h hB.2.2.2.2;have hsm:=fun A n c B l w h hB=>Si id A n c B l w h hB;generalize iy ⟨sq,sy,co,id,v⟩=oE at*;generalize wk ⟨sq,sy,co,id,v⟩=oB at*;generalize kh ⟨sq,sy,co,id,v⟩=ok at*;generalize VO ⟨sq,sy,co,id,v⟩=I at*;dsimp only at xu;generalize AP (mW id) v=pE at*;generalize Pz (mW id) v=pB at*;have Kl: ∀l,(O3 (mW id) l).length=2:=fun _=>rfl;generalize mW id=fm at*;have Hp:=bK hp;have Hsm:=bK hsm;have Hok:=bK hok;have HE:=bK hE;have HBt:=bK hBt;have HI:=bK hI;have Hil:=bK xu;have Hsl:=bK Kl;obtain⟨y1,fo⟩: ∃y,y=((Ci sq).toNat:Int):=⟨_,D⟩;obtain⟨y2,XA⟩: ∃y,y=((Ci sy).toNat:Int):=⟨_,D⟩;obtain⟨y3,hy3⟩: ∃y,y=((Ci co).toNat:Int):=⟨_,D⟩;obtain⟨y4,WT⟩: ∃y,y=((Ci id).toNat:Int):=⟨_,D⟩;have NW:IntKind.u8.wrap sq=y1:=by rw[fo];exact Ej sq
 have J4:IntKind.u8.wrap sy=y2:=by rw[XA];exact Ej sy
 have hw3:IntKind.u8.wrap co=y3:=by rw[hy3];exact Ej co
 have NB:IntKind.u8.wrap id=y4:=by rw[WT];exact Ej id
 have Hy:=bK (bO fo (bO XA (bO hy3 WT)));obtain⟨i0,hi⟩:=eW nP;have Hi:=bK hi;clear hp hsm hok hE hBt hI xu hB fo XA hy3 WT hi Kl;have a0:=bS w (aI #[O Y sq,O Y sy,O Y co,O Y id,aL A n c] 51);have hba:aV w.heap.size w (w.alloc (aI #[O Y sq,O Y sy,O Y co,O Y id,aL A n c] 51)):=(bP _ _).alloc (bM _) _;have Cd:=bT a0;have mM:=Ob (w.alloc (aI #[O Y sq,O Y sy,O Y co,O Y id,aL A n c] 51)) w.heap.size 3 [O Y sq,O Y sy,O Y co] hba.size (by simp[bB]);have hb2:aV (w.alloc (aI #[O Y sq,O Y sy,O Y co,O Y id,aL A n c] 51)).heap.size (w.alloc (aI #[O Y sq,O Y sy,O Y co,O Y id,aL A n c] 51)) ((w.alloc (aI #[O Y sq,O Y sy,O Y co,O Y id,aL A n c] 51)).alloc (aI #[O Y sq,O Y sy,O Y co] 3)):=(bP _ _).alloc (bM _) _;have hr3:=oA mM;have a2:=bV a0 hb2 Cd;have hbw2:=eI hba hb2;have h2:=h.nx hbw2;have Lo:=bT a2;have Gc:w.heap.size+1+1≤((w.alloc (aI #[O Y sq,O Y sy,O Y co,O Y id,aL A n c] 51)).alloc (aI #[O Y sq,O Y sy,O Y co] 3)).heap.size:=by simp only[cL];exact bM _
 simp only[cL] at hr3;have c0:=bL (i:=0) (v:=O Y sq) a0 D;have c1:=bL (i:=1) (v:=O Y sy) a0 D;have c2:=bL (i:=2) (v:=O Y co) a0 D;have c3:=bL (i:=3) (v:=O Y id) a0 D;have c4:=bL (i:=4) (v:=aL A n c) a0 D;clear mM hb2 hba Cd;go_enter func132,ntmps132;go_wp2_with fail;obtain⟨b0,hb0⟩: ∃b0,b0=w.heap.size:=⟨_,D⟩;rw[←hb0] at a2 Lo hr3 Gc ⊢;generalize((w.alloc (aI #[O Y sq,O Y sy,O Y co,O Y id,aL A n c] 51)).alloc (aI #[O Y sq,O Y sy,O Y co] 3))=w2 at*;clear hb0 h c0 c1 c2 c3 c4 a0;go_fit(Uh _ 3 3 [sq,sy,co] w2 (hr3.more Gc));rintro e w3 ⟨rfl,hbx⟩;rw[←Hok.out];have hb3:=eI hbw2 hbx;have h3:=h2.nx hbx;have a3:=bV a2 hbx Lo;have DT:=bT a3;clear hr3 hbw2 hbx h2 a2 Lo
 cases ok with
 |false=>
  have e1:Hid (oE=1):=bK (by rw[HE.out];rfl);have e2:Hid (oB= []):=bK (by rw[HBt.out,e1.out];rfl);clear h3;go_wp2;go_ret2;rw[e1.out,e2.out];exact⟨J,0,0,D,dF _ _ _ _,hb3⟩
 |true=>
  have e1:Hid (oE=pE):=bK (by rw[HE.out];rfl);have c3:w3.cell? ⟨b0,3,J⟩=aE (O Y id):=bL a3 D;have c4:w3.cell? ⟨b0,4,J⟩=aE (aL A n c):=bL a3 D;go_wp2_with fail;go_fit(Hp.out A n c w3 h3);rintro e w4 ⟨Ap,np,kp,rfl,VG,hbx⟩;have hb4:=eI hb3 hbx;have W5:=Bv VG;have a4:=bV a3 hbx DT;have DH:=bT a4;clear c3 c4 hbx hb3 h3 a3 DT;by_cases hz:pE=0
  case neg=>
   have zu: ¬(pE:Int)=0:=by omega
   have hzq:((pE:Int) !=0)=aF:=by simp;exact hz
   have e2:Hid (oB= []):=bK (by rw[HBt.out,e1.out,bX hz]);clear VG;go_wp2;go_ret2;rw[e1.out,e2.out];exact⟨J,0,0,D,dF _ _ _ _,hb4⟩
  subst hz;have e2:Hid (oB=254::(I++O3 fm I)):=bK (by rw[HBt.out,e1.out];rfl);have c0:w4.cell? ⟨b0,0,J⟩=aE (O Y sq):=bL a4 D;have c1:w4.cell? ⟨b0,1,J⟩=aE (O Y sy):=bL a4 D;have c2:w4.cell? ⟨b0,2,J⟩=aE (O Y co):=bL a4 D;obtain⟨y0,hy0⟩: ∃y,y=((Ci (np:Int)).toNat:Int):=⟨_,D⟩;have hw0:IntKind.u8.wrap (np:Int)=y0:=by rw[hy0];exact Ej _
  have nB:(bv [254,Ci (np:Int),Ci sq,Ci sy,Ci co,Ci id])= [O aP 254,O aP y0,O aP y1,O aP y2,O aP y3,O aP y4]:=by rw[hy0,Hy.out.1,Hy.out.2.1,Hy.out.2.2.1,Hy.out.2.2.2];rfl
  have G4:aV w4.heap.size w4 (w4.alloc (aI #[O aP 254,O aP y0,O aP y1,O aP y2,O aP y3,O aP y4] 5)):=(bP _ _).alloc (bM _) _;have hr5:Rd (w4.alloc (aI #[O aP 254,O aP y0,O aP y1,O aP y2,O aP y3,O aP y4] 5)) (w4.alloc (aI #[O aP 254,O aP y0,O aP y1,O aP y2,O aP y3,O aP y4] 5)).heap.size 1 (aE ⟨w4.heap.size,0,J⟩) 6 6 (bv [254,Ci (np:Int),Ci sq,Ci sy,Ci co,Ci id]):=by rw[nB];exact oA (Ob w4 w4.heap.size 5 [O aP 254,O aP y0,O aP y1,O aP y2,O aP y3,O aP y4] (bM _) (by simp[bB]))
  have xk:=(oA VG).nx G4;have hb5:=eI hb4 G4;have H:=Wf _ _ _ _ _ _ (RdL.lit2 (e:=22) (bM _) hr5 xk) (by simp) (by simp;omega);simp only[cL,kG,List.flatten_nil,List.append_nil] at H;rw[show [254,Ci (np:Int),Ci sq,Ci sy,Ci co,Ci id]++pB=254::I by rw[HI.out,W5];rfl] at H;have HH:=bK H;have Hil2:Hid (I.length=np+5):=bK (by rw[Hil.out,W5]);have aKb:np≤200:=by omega
  clear H nB hr5 xk G4 VG hb4 hy0;go_wp2_with fail;go_fit HH.out;rintro e w6 hret;have uq:aV w.heap.size w ((w4.alloc (aI #[O aP 254,O aP y0,O aP y1,O aP y2,O aP y3,O aP y4] 5)).alloc (aI #[aL (aE ⟨w4.heap.size,0,J⟩) 6 6,aL Ap np kp] 22)):=hb5.alloc hb5.size _;obtain⟨A6,c6,n6,rfl,uQ,hb6⟩:=hret.back uq;have xd:n6=np+6:=by have:=Bv uQ;rw[List.length_cons,Hil2.out] at this;omega
  subst xd;clear hret uq hb5 HH c0 c1 c2;have hr6:=oA uQ;have aC2:=hr6.max;have aKc:=hr6.le;unfold bB at aC2;have hcut: ∀w,(Instr.slice 22 (aL A6 (np+6) c6) (aE (O Y 1)) J J).run bH w= .ok (aL (oH A6 c6 1 1) (np+5) (c6-1)) w:=fun w=>rG (P:=bH) dH Hi.out.1 Hi.out.2.2.1 A6 (np+6) c6 1 (by omega) w;have hrc:Rd w6 w6.heap.size 1 (oH A6 c6 1 1) (np+5) (c6-1) (bv I):=hr6.bdrop (k:=1) (by omega);clear hr6;go_wp2_with fail;go_fit(Hsm.out _ (np+5) _ w6.heap.size I w6 hrc (bM _));rintro e w7 ⟨A7,c7,n7,rfl,sC,hbx⟩;have hb7:=eI hb6 hbx;have z8:=jK uQ hbx (bM _);have hr7:=oA sC;have xi:n7=2:=by have:=Bv sC;rw[Hsl.out] at this;omega
  subst xi;clear uQ sC hrc hbx hb6;go_wp2_with(at_builtin;refine rP ?_);refine eL (iY (base:=w.heap.size) (n:=np+6) dH Hi.out D (by omega) z8 D hr7 D (F6 _) (k:=np+8) D (Pc _ _).symm (by unfold bB;omega) (by omega) hb7.size ?_);intro A9 c9 w9 XO hgr zE;have hb9:=Below.grown hb7 hgr hb7.size (fun j hj=>(eU z8 hj).1);rw[show(254::I++O3 fm I:List UInt8)=254::(I++O3 fm I) from D,←e2.out] at XO;clear hgr zE z8 hr7 hb7;go_wp2;go_ret2;rw[e1.out];exact⟨A9,np+8,c9,D,XO,hb9⟩
abbrev pW:=@ntmps144
abbrev rN:=@func144
theorem Vl{w:aS}{base:Nat}{e:aY}{size n:Nat}{v:aT}{xs:List aT}(h:w.ownsRow base e size v n xs){g:Nat}(hg:g<base)(cs:Array aT):(w.setRow g cs).ownsRow base e size v n xs:=by
 refine⟨h.1,?_⟩;rcases h.2 with h2|⟨k,cap,cur,hv,hk,hh,r⟩
 ·exact .inl h2
 ·exact .inr ⟨k,cap,cur,hv,hk,(setRow_other _ _ _ _ (by omega)).trans hh,r⟩
theorem Rd.cap{w:aS}{B size n c:Nat}{A:Option aW}{xs:List aT}(h:Rd w B size A n c xs):Rd w B size A n n xs:=⟨h.len,bM _,bU h.le h.max,h.at_⟩
theorem o6{b:List UInt8}{E:Nat}(h:tT b=E)(h0: ¬E=0):Ak b=E∧Db b=0:=⟨by unfold Ak;rw[h,bX h0],by unfold Db;rw[h,bX h0]⟩
def Ue(w:aS)(b:List UInt8)(e:aX)(w':aS):Prop:=
 ∃(A:Option aW) (n c:Nat),e=aJ (aN #[aM #[O Y (Ig b).sq,O Y (Ig b).sy,O Y (Ig b).co,O Y (Ig b).id,aL A n c],O Y (Db b:Int),O Y (Ak b:Int)])∧Rd w' w'.heap.size 1 A n c ((Ig b).v.map (Value.int Y))∧(∀p,A=aE p→w.heap.size≤p.block)∧aV w.heap.size w w'
theorem yD{w w':aS}{b:List UInt8}{E N:Nat}(he:Ak b=E)(h0: ¬E=0)(hN:Db b=N)(hb:aV w.heap.size w w'):Ue w b (aJ (aN #[aM #[O Y 0,O Y 0,O Y 0,O Y 0,aL J 0 0],O Y (N:Int),O Y (E:Int)])) w':=by
 have hP:Ig b=NU:=by unfold Ig;rw[bX (by rw[he];exact h0)]
 exact⟨J,0,0,by rw[hP,he,hN];rfl,by rw[hP];exact iH _ _ _,(fun p hp=>by cases hp),hb⟩
theorem Js(g:Nat)(A:Option aW)(n c k:Nat)(w:aS)(hg:w.heap[g]?=aE (aI #[aL A n c] 340))(hk:k≤n)(hc:n≤c)(hm:c≤bB):
  aU bH 182 #[aK (aE ⟨g,0,J⟩),O Y (k:Int)] w fun e w'=>e=aJ (aL A k k)∧w'.heap[g]?=aE (aI #[aL (oH A c k 1) (n-k) (c-k)] 340)∧w.grownBy w' (aE g):=by
 obtain⟨i0,hi⟩:=eW nP;unfold bB at hm;have NJ: ∀w,(Instr.slice 22 (aL A n c) J (aE (O Y (k:Int))) (aE (O Y (k:Int)))).run bH w= .ok (aL A k k) w:=Io (P:=bH) dH hi.1 A n c k (by omega);have Tr: ∀w,(Instr.slice 22 (aL A n c) (aE (O Y (k:Int))) J J).run bH w= .ok (aL (oH A c k 1) (n-k) (c-k)) w:=fun w=>rG (P:=bH) dH hi.1 hi.2.2.1 A n c k (by omega) w;have c0:=bL (i:=0) (v:=aL A n c) hg D;have f0:=bZ (i:=0) hg;have h1:=cN (i:=0) hg (aL (oH A c k 1) (n-k) (c-k));have hgr:=tH (rF w (aE g)) 0 (aL (oH A c k 1) (n-k) (c-k));have Hcut1:=bK NJ;have Hcut2:=bK Tr;clear NJ Tr hi;go_enter func182,ntmps182;have NJ:=Hcut1.out;have Tr:=Hcut2.out;go_wp2;go_ret;exact⟨D,h1,hgr⟩
theorem Qt(A:Option aW)(n c:Nat)(b:List UInt8)(w:aS)(h:Rd w w.heap.size 1 A n c (bv b))(hn:n≤1000000):
  aU bH 144 #[aL A n c] w (Ue w b):=by
 have hlb:=h.blen;have hmx:=h.max;have hle:=h.le;unfold bB at hmx;have hres:(w.alloc (aI #[O Y 0,O Y 0,O Y 0,O Y 0,aL J 0 0] 51)).heap[w.heap.size]?=aE (aI #[O Y 0,O Y 0,O Y 0,O Y 0,aL J 0 0] 51):=bS w _;have h0:aV w.heap.size w (w.alloc (aI #[O Y 0,O Y 0,O Y 0,O Y 0,aL J 0 0] 51)):=(bP _ _).alloc (bM _) _;by_cases Ao:n=0
 ·subst Ao;have HE:Hid (Ak b=2∧Db b=0):=bK (o6 (by unfold tT;rw[bY hlb]) (by omega));clear h hlb;go_enter rN,pW;go_wp2_with(with_reducible refine sT [51] ?_);refine eL (wpList_store_row D _ _ _ D w.heap.size #[O Y 0,O Y 0,O Y 0,O Y 0,aL J 0 0] D D _ _ hres (by kernel_rfl) D (by kernel_rfl) ?_);have cS:=setRow_heap _ _ _ (#[O Y 0,O Y 0,O Y 0,O Y 0,aL J 0 0]:Array aT) _ _ hres;have hb5:=below_setRow h0 (bM _) (#[O Y 0,O Y 0,O Y 0,O Y 0,aL J 0 0]:Array aT);generalize((w.alloc (aI #[O Y 0,O Y 0,O Y 0,O Y 0,aL J 0 0] 51)).setRow w.heap.size #[O Y 0,O Y 0,O Y 0,O Y 0,aL J 0 0])=v5 at*;have e0:=bL (i:=0) (v:=O Y 0) cS D;have e1:=bL (i:=1) (v:=O Y 0) cS D;have e2:=bL (i:=2) (v:=O Y 0) cS D;have e3:=bL (i:=3) (v:=O Y 0) cS D;have e4:=bL (i:=4) (v:=aL J 0 0) cS D;go_wp2;exact bR (v:=aN #[aM #[O Y 0,O Y 0,O Y 0,O Y 0,aL J 0 0],O Y 0,O Y 2]) (by simp[results,go_sem,e0,e1,e2,e3,e4]) D (yD (E:=2) (N:=0) HE.out.1 (by decide) HE.out.2 hb5)
 have aKd: ¬(n:Int)=0:=by omega
 have aKe:((n:Int)==0)=aD:=by simp;exact Ao
 have wB:(0:Int)<(n:Int):=by omega
 obtain⟨x0,b',hbx⟩: ∃x0 b',b=x0::b':=by
  cases b with
  |nil=>exact absurd hlb.symm Ao
  |cons x l=>exact⟨x,l,D⟩
 obtain⟨ad,x0',rfl,hx0,k0⟩:=h.byte (show 0<n by omega);obtain rfl:x0=x0':=by rw[hbx] at hx0;injection hx0
 have Kf:ad.block<w.heap.size:=by obtain⟨_,e,hb,_⟩:=h.at_ (by omega);injection e with e;rw[e];exact hb
 have J7:=World.cell?_spot k0;obtain⟨g,off,sp⟩:=ad;simp only[Addr.add] at J7
 obtain rfl:sp=J:=by
  cases sp with
  |none=>rfl
  |some s=>simp at J7
 replace Kf:g<w.heap.size:=Kf;rw[Addr.add_mid,Nat.add_zero] at k0;have ur:=(h0.cell (p:=⟨g,off,J⟩) Kf).trans k0;by_cases hx:x0=254
 case neg=>
  have HE:Hid (Ak b=3∧Db b=0):=bK (o6 (by
   unfold tT;rw[bX (by omega),hbx];show(if¬x0=254 then 3 else _)=3
   rw[bY hx]) (by omega))
  have hq:((x0.toNat:Int) !=254)=aF:=by have: ¬x0.toNat=254:=fun e=>hx (UInt8.toNat_inj.1 e);simp;omega
  have M7: ¬(x0.toNat:Int)=254:=by intro e;rw[e] at hq;exact absurd hq (by decide)
  clear h hlb hx0 k0 hbx hx;go_enter rN,pW;go_wp2_with(with_reducible refine sT [51] ?_);refine eL (wpList_store_row D _ _ _ D w.heap.size #[O Y 0,O Y 0,O Y 0,O Y 0,aL J 0 0] D D _ _ hres (by kernel_rfl) D (by kernel_rfl) ?_);have cS:=setRow_heap _ _ _ (#[O Y 0,O Y 0,O Y 0,O Y 0,aL J 0 0]:Array aT) _ _ hres;have hb5:=below_setRow h0 (bM _) (#[O Y 0,O Y 0,O Y 0,O Y 0,aL J 0 0]:Array aT);generalize((w.alloc (aI #[O Y 0,O Y 0,O Y 0,O Y 0,aL J 0 0] 51)).setRow w.heap.size #[O Y 0,O Y 0,O Y 0,O Y 0,aL J 0 0])=v5 at*;have e0:=bL (i:=0) (v:=O Y 0) cS D;have e1:=bL (i:=1) (v:=O Y 0) cS D;have e2:=bL (i:=2) (v:=O Y 0) cS D;have e3:=bL (i:=3) (v:=O Y 0) cS D;have e4:=bL (i:=4) (v:=aL J 0 0) cS D;go_wp2;exact bR (v:=aN #[aM #[O Y 0,O Y 0,O Y 0,O Y 0,aL J 0 0],O Y 0,O Y 3]) (by simp[results,go_sem,e0,e1,e2,e3,e4]) D (yD (E:=3) (N:=0) HE.out.1 (by decide) HE.out.2 hb5)
 subst hx;have uu:((254:UInt8).toNat:Int)=254:=D;rw[uu] at ur k0;by_cases h6:n<6
 ·have HE:Hid (Ak b=2∧Db b=0):=bK (o6 (by
   unfold tT;rw[bX (by omega),hbx];show(if¬(254:UInt8)=254 then 3 else _)=2
   rw[bX (fun h=>h D),←hbx,bY (by omega)]) (by omega))
  have h6':(n:Int)<6:=by omega
  clear h hlb hx0 k0 hbx;go_enter rN,pW;go_wp2_with(with_reducible refine sT [51] ?_);refine eL (wpList_store_row D _ _ _ D w.heap.size #[O Y 0,O Y 0,O Y 0,O Y 0,aL J 0 0] D D _ _ hres (by kernel_rfl) D (by kernel_rfl) ?_);have cS:=setRow_heap _ _ _ (#[O Y 0,O Y 0,O Y 0,O Y 0,aL J 0 0]:Array aT) _ _ hres;have hb5:=below_setRow h0 (bM _) (#[O Y 0,O Y 0,O Y 0,O Y 0,aL J 0 0]:Array aT);generalize((w.alloc (aI #[O Y 0,O Y 0,O Y 0,O Y 0,aL J 0 0] 51)).setRow w.heap.size #[O Y 0,O Y 0,O Y 0,O Y 0,aL J 0 0])=v5 at*;have e0:=bL (i:=0) (v:=O Y 0) cS D;have e1:=bL (i:=1) (v:=O Y 0) cS D;have e2:=bL (i:=2) (v:=O Y 0) cS D;have e3:=bL (i:=3) (v:=O Y 0) cS D;have e4:=bL (i:=4) (v:=aL J 0 0) cS D;go_wp2;exact bR (v:=aN #[aM #[O Y 0,O Y 0,O Y 0,O Y 0,aL J 0 0],O Y 0,O Y 2]) (by simp[results,go_sem,e0,e1,e2,e3,e4]) D (yD (E:=2) (N:=0) HE.out.1 (by decide) HE.out.2 hb5)
 have h6': ¬(n:Int)<6:=by omega
 obtain⟨x0,x1,x2,x3,x4,x5,r,hbs⟩:=T3 (b:=b) (by omega);obtain rfl:x0=254:=by rw[hbx] at hbs;injection hbs with e _;exact e.symm
 have Ce:r.length+6=n:=by rw[←hlb,hbs];simp
 obtain⟨y1,fo⟩: ∃y,y=x1.toNat:=⟨_,D⟩;obtain⟨y5,qi⟩: ∃y,y=x5.toNat:=⟨_,D⟩;have aKg:y1≤255:=by have:=x1.toNat_lt;omega
 have aKh:y5≤255:=by have:=x5.toNat_lt;omega
 have kk: ∀(j:Nat) (x:UInt8),b[j]?=aE x→∀wq,aV w.heap.size w wq→wq.cell? ⟨g,off+j,J⟩=aE (O aP (x.toNat:Int)):=fun j x hj wq hbq=>by
  have hjn:j<n:=by rw[←hlb];exact(List.getElem?_eq_some_iff.1 hj).1
  obtain⟨ad',x',e,Kr,hc⟩:=h.byte hjn;injection e with e;rw[hj] at Kr;injection Kr with Kr;rw[←e,Addr.add_mid] at hc;rw[Kr];exact(hbq.cell (p:=⟨g,off+j,J⟩) Kf).trans hc
 have k1: ∀wq,aV w.heap.size w wq→wq.cell? ⟨g,off+1,J⟩=aE (O aP (y1:Int)):=fun wq hq=>by rw[fo];exact kk 1 x1 (by rw[hbs];rfl) wq hq
 have k5: ∀wq,aV w.heap.size w wq→wq.cell? ⟨g,off+5,J⟩=aE (O aP (y5:Int)):=fun wq hq=>by rw[qi];exact kk 5 x5 (by rw[hbs];rfl) wq hq
 have k2:=kk 2 x2 (by rw[hbs];rfl);have k3:=kk 3 x3 (by rw[hbs];rfl);have k4:=kk 4 x4 (by rw[hbs];rfl);have hE1:tT b=iv 254 x1 x5 r [x1,x2,x3,x4,x5]:=by rw[hbs,Bn]
 have hid:Vm b=(y5:Int):=by rw[hbs,qi];rfl
 have xw:C4 b=vF (y5:Int):=by rw[←hid];rfl
 have hP:Ig b=if Ak b=0 then⟨(x2.toNat:Int),(x3.toNat:Int),(x4.toNat:Int),(y5:Int),NT (mW (y5:Int)) (yR b)⟩ else NU:=by rw[←hid];unfold Ig;rw[hbs];rfl
 have iJ:=fun w=>Z7 (y5:Int) w;have fp:= @Pb (y5:Int);have aC3:vF (y5:Int)≤208:=by have:=Wm (y5:Int);unfold vF;split<;>omega
 have hF:iv 254 x1 x5 r [x1,x2,x3,x4,x5]=if vF (y5:Int)=0 then 6 else if¬y1+8=vF (y5:Int) then 3 else if n<vF (y5:Int) then 2 else if¬(b.drop (vF (y5:Int)-2)).take 2=O3 (mW (y5:Int)) ((b.drop 1).take (vF (y5:Int)-3)) then 4 else 0:=by
  rw[←hE1];unfold tT;have g0:b.getD 0 0=254:=by rw[hbs];rfl
  have n0: ¬¬b.getD 0 0=254:=fun h=>h g0;have e1:(b.getD 1 0).toNat=y1:=by rw[hbs,fo];rfl
  rw[bX (show¬b.length=0 by omega),bX n0,hlb,bX h6,xw,hid,e1]
 obtain⟨N,hN⟩: ∃N,N=vF (y5:Int):=⟨_,D⟩;rw[←hN] at xw iJ fp aC3 hF;rw[hF] at hE1;have G4:wrap64 (y5:Int)=(y5:Int):=by unfold wrap64;omega
 have NW:wrap64 (y1:Int)=(y1:Int):=by unfold wrap64;omega
 have Hw5:=bK G4;have Hw1:=bK NW;have HE1:=bK hE1;have HN0:=bK xw;have HP:=bK hP;have Hsz:=bK iJ;have Hid5:=bK hid;have K2:=bK k2;have K3:=bK k3;have K4:=bK k4;have K1:=bK k1;have xx:=k5 _ h0;have hn5:(5:Int)<(n:Int):=by omega
 have aKi:(1:Int)<(n:Int):=by omega
 have aKj:5<n:=by omega
 have aKk:1<n:=by omega
 clear G4 NW hE1 xw hP iJ hid k2 k3 k4 k1 k5 kk hF hbx hx0 k0 hN fo qi uu hbs Ce hlb;by_cases EA:N=0
 ·subst EA;have HE:Hid (Ak b=6∧Db b=0):=bK (o6 (by rw[HE1.out,bY D]) (by omega));clear h;go_enter rN,pW;have G4:=Hw5.out;go_wp2_with fail;go_fit(Hsz.out _);rintro e w2 ⟨rfl,hbx⟩;have hb2:=eI h0 hbx;replace hres:=bV hres hbx (bT hres);clear hbx h0 ur xx G4;go_wp2_with(with_reducible refine sT [51] ?_);refine eL (wpList_store_row D _ _ _ D w.heap.size #[O Y 0,O Y 0,O Y 0,O Y 0,aL J 0 0] D D _ _ hres (by kernel_rfl) D (by kernel_rfl) ?_);have cS:=setRow_heap _ _ _ (#[O Y 0,O Y 0,O Y 0,O Y 0,aL J 0 0]:Array aT) _ _ hres;have hb5:=below_setRow hb2 (bM _) (#[O Y 0,O Y 0,O Y 0,O Y 0,aL J 0 0]:Array aT);generalize(w2.setRow w.heap.size #[O Y 0,O Y 0,O Y 0,O Y 0,aL J 0 0])=v5 at*;have e0:=bL (i:=0) (v:=O Y 0) cS D;have e1:=bL (i:=1) (v:=O Y 0) cS D;have e2:=bL (i:=2) (v:=O Y 0) cS D;have e3:=bL (i:=3) (v:=O Y 0) cS D;have e4:=bL (i:=4) (v:=aL J 0 0) cS D;go_wp2;exact bR (v:=aN #[aM #[O Y 0,O Y 0,O Y 0,O Y 0,aL J 0 0],O Y 0,O Y 6]) (by simp[results,go_sem,e0,e1,e2,e3,e4]) D (yD (E:=6) (N:=0) HE.out.1 (by decide) HE.out.2 hb5)
 have hN8:=fp EA;have aKl: ¬(N:Int)=0:=by omega
 have aKm:((N:Int)==0)=aD:=by simp;exact EA
 obtain⟨a6,ha6⟩: ∃a:Nat,a=6+y1:=⟨_,D⟩;obtain⟨a8,P5⟩: ∃a:Nat,a=a6+2:=⟨_,D⟩;have hwa:IntKind.i64.wrap (6+(y1:Int))=(a6:Int):=by rw[fV _ (by omega)];omega
 have jy:IntKind.i64.wrap ((a6:Int)+2)=(a8:Int):=by rw[fV _ (by omega)];omega
 have Hwa:=bK hwa;have Hwb:=bK jy;clear hwa jy;by_cases jv:a8=N
 case neg=>
  have HE:Hid (Ak b=3∧Db b=0):=bK (o6 (by rw[HE1.out,bX EA,bY (by omega)]) (by omega));have hq:((a8:Int) !=(N:Int))=aF:=by simp;omega
  have M7: ¬(a8:Int)=(N:Int):=by omega
  clear h ha6 P5;go_enter rN,pW;have G4:=Hw5.out;go_wp2_with fail;go_fit(Hsz.out _);rintro e w2 ⟨rfl,hbx⟩;have hb2:=eI h0 hbx;replace hres:=bV hres hbx (bT hres);have k1w:=K1.out w2 hb2;have NW:=Hw1.out;have hwa:=Hwa.out;have jy:=Hwb.out;clear hbx h0 ur xx G4;go_wp2_with(with_reducible refine sT [51] ?_);refine eL (wpList_store_row D _ _ _ D w.heap.size #[O Y 0,O Y 0,O Y 0,O Y 0,aL J 0 0] D D _ _ hres (by kernel_rfl) D (by kernel_rfl) ?_);have cS:=setRow_heap _ _ _ (#[O Y 0,O Y 0,O Y 0,O Y 0,aL J 0 0]:Array aT) _ _ hres;have hb5:=below_setRow hb2 (bM _) (#[O Y 0,O Y 0,O Y 0,O Y 0,aL J 0 0]:Array aT);generalize(w2.setRow w.heap.size #[O Y 0,O Y 0,O Y 0,O Y 0,aL J 0 0])=v5 at*;have e0:=bL (i:=0) (v:=O Y 0) cS D;have e1:=bL (i:=1) (v:=O Y 0) cS D;have e2:=bL (i:=2) (v:=O Y 0) cS D;have e3:=bL (i:=3) (v:=O Y 0) cS D;have e4:=bL (i:=4) (v:=aL J 0 0) cS D;go_wp2;exact bR (v:=aN #[aM #[O Y 0,O Y 0,O Y 0,O Y 0,aL J 0 0],O Y 0,O Y 3]) (by simp[results,go_sem,e0,e1,e2,e3,e4]) D (yD (E:=3) (N:=0) HE.out.1 (by decide) HE.out.2 hb5)
 have hq8:((a8:Int) !=(N:Int))=aD:=by simp;omega
 have uw:(a8:Int)=(N:Int):=by omega
 have Hq8:=bK uw;clear uw;by_cases hsh:n<N
 ·have HE:Hid (Ak b=2∧Db b=0):=bK (o6 (by rw[HE1.out,bX EA,bX (by omega),bY hsh]) (by omega));have aC6:(n:Int)<(N:Int):=by omega
  clear h ha6 P5;go_enter rN,pW;have G4:=Hw5.out;go_wp2_with fail;go_fit(Hsz.out _);rintro e w2 ⟨rfl,hbx⟩;have hb2:=eI h0 hbx;replace hres:=bV hres hbx (bT hres);have k1w:=K1.out w2 hb2;have NW:=Hw1.out;have hwa:=Hwa.out;have jy:=Hwb.out;clear hbx h0 ur xx G4;go_wp2_with(with_reducible refine sT [51] ?_);refine eL (wpList_store_row D _ _ _ D w.heap.size #[O Y 0,O Y 0,O Y 0,O Y 0,aL J 0 0] D D _ _ hres (by kernel_rfl) D (by kernel_rfl) ?_);have cS:=setRow_heap _ _ _ (#[O Y 0,O Y 0,O Y 0,O Y 0,aL J 0 0]:Array aT) _ _ hres;have hb5:=below_setRow hb2 (bM _) (#[O Y 0,O Y 0,O Y 0,O Y 0,aL J 0 0]:Array aT);generalize(w2.setRow w.heap.size #[O Y 0,O Y 0,O Y 0,O Y 0,aL J 0 0])=v5 at*;have e0:=bL (i:=0) (v:=O Y 0) cS D;have e1:=bL (i:=1) (v:=O Y 0) cS D;have e2:=bL (i:=2) (v:=O Y 0) cS D;have e3:=bL (i:=3) (v:=O Y 0) cS D;have e4:=bL (i:=4) (v:=aL J 0 0) cS D;go_wp2;exact bR (v:=aN #[aM #[O Y 0,O Y 0,O Y 0,O Y 0,aL J 0 0],O Y 0,O Y 2]) (by simp[results,go_sem,e0,e1,e2,e3,e4]) D (yD (E:=2) (N:=0) HE.out.1 (by decide) HE.out.2 hb5)
 have aC6: ¬(n:Int)<(N:Int):=by omega
 have HE2:Hid (tT b=if¬(b.drop (N-2)).take 2=O3 (mW (y5:Int)) ((b.drop 1).take (N-3)) then 4 else 0):=bK (by rw[HE1.out,bX EA,bX (by omega),bX hsh]);obtain⟨m6,Cr⟩: ∃m:Nat,m=N-6:=⟨_,D⟩;obtain⟨m8,Xd⟩: ∃m:Nat,m=N-8:=⟨_,D⟩;obtain⟨m2,oX⟩: ∃m:Nat,m=N-2:=⟨_,D⟩;have VH:IntKind.i64.wrap ((N:Int)-6)=(m6:Int):=by rw[fV _ (by omega)];omega
 have VI:IntKind.i64.wrap ((m6:Int)-2)=(m8:Int):=by rw[fV _ (by omega)];omega
 have VJ:IntKind.i64.wrap ((N:Int)-2)=(m2:Int):=by rw[fV _ (by omega)];omega
 have Hwm6:=bK VH;have Hwm8:=bK VI;have Hwm2:=bK VJ;obtain⟨i0,hi⟩:=eW nP
 have Kb: ∀w,(Instr.slice 22 (aL (aE ⟨g,off,J⟩) n c) (aE (O Y 1)) (aE (O Y (m2:Int))) J).run bH w= .ok (aL (oH (aE ⟨g,off,J⟩) c 1 1) (N-3) (c-1)) w:=fun w=>by
  have:=Dd (P:=bH) dH hi.1 hi.2.2.1 (aE ⟨g,off,J⟩) n c 1 m2 (by omega) (by omega) w
  rwa[show m2-1=N-3 by omega] at this
 have HcutS:=bK Kb
 have HrS:Hid (Rd w w.heap.size 1 (oH (aE ⟨g,off,J⟩) c 1 1) (N-3) (c-1) (bv ((b.drop 1).take (N-3)))):=bK (by
  have:=(h.btake (k:=m2) (by omega)).bdrop (k:=1) (by omega)
  rwa[show m2-1=N-3 by omega,List.drop_take,show m2-1=N-3 by omega] at this)
 have HrB:Hid (Rd w w.heap.size 1 (oH (aE ⟨g,off,J⟩) c 6 1) m8 m8 (bv (yR b))):=bK (by
  have:=((h.bdrop (k:=6) (by omega)).btake (k:=m8) (by omega)).cap;unfold yR
  rwa[HN0.out,←Xd])
 have HrT:Hid (Rd w w.heap.size 1 (oH (oH (aE ⟨g,off,J⟩) c 6 1) (c-6) m8 1) 2 2 (bv ((b.drop (N-2)).take 2))):=bK (by
  have:=(((h.bdrop (k:=6) (by omega)).bdrop (k:=m8) (by omega)).btake (k:=2) (by omega)).cap
  rwa[List.drop_drop,show 6+m8=N-2 by omega] at this)
 have aKn:m8+2≤n-6:=by omega
 clear h ha6 P5 Cr Xd oX VH VI VJ hi Kb jv fp;go_enter rN,pW;have G4:=Hw5.out;go_wp2_with fail;go_fit(Hsz.out _);rintro e w2 ⟨rfl,hbx⟩;have hb2:=eI h0 hbx;replace hres:=bV hres hbx (bT hres);have k1w:=K1.out w2 hb2;have NW:=Hw1.out;have hwa:=Hwa.out;have jy:=Hwb.out;have VH:=Hwm6.out;have VI:=Hwm8.out;have zB:=bS w2 (aI #[aL (aE ⟨g,off,J⟩) n c] 340);have hbe:aV w2.heap.size w2 (w2.alloc (aI #[aL (aE ⟨g,off,J⟩) n c] 340)):=(bP _ _).alloc (bM _) _;have hb3:=eI hb2 hbe;have Ce:=bT hres;have hres3:=bV hres hbe Ce;have hmL:c≤bB:=by unfold bB;omega
 clear hbx h0 ur xx G4 hbe hb2;go_wp2_with fail;obtain⟨ge,Pj⟩: ∃g,g=w2.heap.size:=⟨_,D⟩;rw[←Pj] at zB Ce ⊢;generalize(w2.alloc (aI #[aL (aE ⟨g,off,J⟩) n c] 340))=w3 at*;clear Pj hres k1w NW hwa jy;go_fit(Js ge (aE ⟨g,off,J⟩) n c 6 w3 zB (by omega) hle hmL);rintro e w4 ⟨rfl,hg4,hgr⟩;have hb4:=Below.grown hb3 hgr hb3.size (fun j hj=>by injection hj with hj;omega);have fM:=(hgr.block _ (bT hres3) (by intro e;injection e with e;omega)).trans hres3;clear zB hgr hb3 hres3;go_wp2_with fail;go_fit(Js ge _ (n-6) (c-6) m8 w4 hg4 (by omega) (by omega) (by omega));rintro e w5 ⟨rfl,hg5,hgr⟩;have hb5:=Below.grown hb4 hgr hb4.size (fun j hj=>by injection hj with hj;omega);have cS:=(hgr.block _ (bT fM) (by intro e;injection e with e;omega)).trans fM;clear hg4 hgr hb4 fM VH VI;go_wp2_with fail;go_fit(Js ge _ (n-6-m8) (c-6-m8) 2 w5 hg5 (by omega) (by omega) (by omega));rintro e w6 ⟨rfl,hg6,hgr⟩;have hb6:=Below.grown hb5 hgr hb5.size (fun j hj=>by injection hj with hj;omega);have iW:=(hgr.block _ (bT cS) (by intro e;injection e with e;omega)).trans cS;have VJ:=Hwm2.out;have Kb:=HcutS.out;clear hg5 hgr hb5 cS hg6;go_wp2_with fail;go_fit(Si (y5:Int) _ (N-3) _ w.heap.size _ w6 (HrS.out.up hb6) hb6.size);rintro e w7 ⟨A7,c7,n7,rfl,sC,hbx⟩;have hb7:=eI hb6 hbx;have hr7:=oA sC;have xi:n7=2:=by have:=Bv sC;have e2:(O3 (mW (y5:Int)) ((b.drop 1).take (N-3))).length=2:=D;omega
 subst xi;have gQ:=bV iW hbx (bT iW);clear hbx hb6 sC iW VJ Kb;go_wp2_with fail;go_fit(V4 _ 2 2 w.heap.size _ A7 2 c7 w7.heap.size _ w7 (HrT.out.up hb7) hb7.size hr7 (bM _));rintro e w8 ⟨rfl,hbx⟩;have hb8:=eI hb7 hbx;have hres:=bV gQ hbx (bT gQ);clear hbx hb7 hr7 gQ;by_cases hsm:(b.drop (N-2)).take 2=O3 (mW (y5:Int)) ((b.drop 1).take (N-3))
 case neg=>have HE:Hid (Ak b=4∧Db b=0):=bK (o6 (by rw[HE2.out,bY hsm]) (by omega));rw[dN hsm];clear hsm;go_wp2_with(with_reducible refine sT [51] ?_);refine eL (wpList_store_row D _ _ _ D w.heap.size #[O Y 0,O Y 0,O Y 0,O Y 0,aL J 0 0] D D _ _ hres (by kernel_rfl) D (by kernel_rfl) ?_);have cS:=setRow_heap _ _ _ (#[O Y 0,O Y 0,O Y 0,O Y 0,aL J 0 0]:Array aT) _ _ hres;have hb5:=below_setRow hb8 (bM _) (#[O Y 0,O Y 0,O Y 0,O Y 0,aL J 0 0]:Array aT);generalize(w8.setRow w.heap.size #[O Y 0,O Y 0,O Y 0,O Y 0,aL J 0 0])=v5 at*;have e0:=bL (i:=0) (v:=O Y 0) cS D;have e1:=bL (i:=1) (v:=O Y 0) cS D;have e2:=bL (i:=2) (v:=O Y 0) cS D;have e3:=bL (i:=3) (v:=O Y 0) cS D;have e4:=bL (i:=4) (v:=aL J 0 0) cS D;go_wp2;exact bR (v:=aN #[aM #[O Y 0,O Y 0,O Y 0,O Y 0,aL J 0 0],O Y 0,O Y 4]) (by simp[results,go_sem,e0,e1,e2,e3,e4]) D (yD (E:=4) (N:=0) HE.out.1 (by decide) HE.out.2 hb5)
 rw[dU hsm];have fq:tT b=0:=by rw[HE2.out,bX (fun h=>h hsm)]
 have hTE:Ak b=RP (mW (y5:Int)) (yR b):=by unfold Ak;rw[bY fq,Hid5.out]
 have hTN:Db b=N:=by unfold Db;rw[bY fq,HN0.out]
 have HTE:=bK hTE;have HTN:=bK hTN;clear hsm fq hTE hTN;go_wp2_with fail;go_fit(Vt (y5:Int) _ m8 m8 _ w8 ((HrB.out.up hb8).more hb8.size) (by omega));rintro e w9 ⟨A9,n9,c9,rfl,EB,hbx⟩;have hb9:=eI hb8 hbx;have nC:=hres;replace hres:=bV hres hbx (bT hres);have xy:=oA EB;rw[←HTE.out];by_cases hz:Ak b=0
 case neg=>
  obtain⟨err,herr⟩: ∃err,err=Ak b:=⟨_,D⟩;rw[←herr] at hz ⊢;have HE:Hid (Ak b=err∧Db b=N):=bK ⟨herr.symm,HTN.out⟩;have zu: ¬(err:Int)=0:=by omega
  have hzq:((err:Int) !=0)=aF:=by simp;exact hz
  clear hbx EB xy hb8 herr nC;go_wp2_with(with_reducible refine sT [51] ?_);refine eL (wpList_store_row D _ _ _ D w.heap.size #[O Y 0,O Y 0,O Y 0,O Y 0,aL J 0 0] D D _ _ hres (by kernel_rfl) D (by kernel_rfl) ?_);have cS:=setRow_heap _ _ _ (#[O Y 0,O Y 0,O Y 0,O Y 0,aL J 0 0]:Array aT) _ _ hres;have hb5:=below_setRow hb9 (bM _) (#[O Y 0,O Y 0,O Y 0,O Y 0,aL J 0 0]:Array aT);generalize(w9.setRow w.heap.size #[O Y 0,O Y 0,O Y 0,O Y 0,aL J 0 0])=v5 at*;have e0:=bL (i:=0) (v:=O Y 0) cS D;have e1:=bL (i:=1) (v:=O Y 0) cS D;have e2:=bL (i:=2) (v:=O Y 0) cS D;have e3:=bL (i:=3) (v:=O Y 0) cS D;have e4:=bL (i:=4) (v:=aL J 0 0) cS D;go_wp2;exact bR (v:=aN #[aM #[O Y 0,O Y 0,O Y 0,O Y 0,aL J 0 0],O Y (N:Int),O Y (err:Int)]) (by simp[results,go_sem,e0,e1,e2,e3,e4]) D (yD (E:=err) (N:=N) HE.out.1 hz HE.out.2 hb5)
 have HP2:Hid (Ig b=⟨(x2.toNat:Int),(x3.toNat:Int),(x4.toNat:Int),(y5:Int),NT (mW (y5:Int)) (yR b)⟩):=bK (by rw[HP.out,bY hz]);have Hz:=bK hz;rw[hz];have XP:=K2.out w9 hb9;have XQ:=K3.out w9 hb9;have XS:=K4.out w9 hb9;have hx2:=x2.toNat_lt;have Na:=x3.toNat_lt;have hx4:=x4.toNat_lt;have J4:IntKind.i64.wrap (x2.toNat:Int)=(x2.toNat:Int):=fV _ (by omega);have hw3:IntKind.i64.wrap (x3.toNat:Int)=(x3.toNat:Int):=fV _ (by omega);have NB:IntKind.i64.wrap (x4.toNat:Int)=(x4.toNat:Int):=fV _ (by omega);have aC8:w.heap.size<w8.heap.size:=bT nC;clear hbx xy hb8 hz nC;go_wp2_with fail;refine cQ (fun w'=>w'.cell? ⟨g,off+2,J⟩=aE (O aP (x2.toNat:Int))∧w'.cell? ⟨g,off+3,J⟩=aE (O aP (x3.toNat:Int))∧w'.cell? ⟨g,off+4,J⟩=aE (O aP (x4.toNat:Int))) aD [] (by kernel_rfl) (by kernel_rfl) ⟨XP,XQ,XS⟩ ?_;replace XP:w9.drew.cell? _=_:=XP;replace XQ:w9.drew.cell? _=_:=XQ;replace XS:w9.drew.cell? _=_:=XS;replace hb9:=hb9.drew;replace hres:w9.drew.heap[w.heap.size]?=_:=hres;replace EB:w9.drew.ownsRow w8.heap.size 2 1 _ _ _:=EB;generalize w9.drew=wd at*;refine Ord.K ?_;refine Ord.K ?_;refine cR (ad:=⟨g,off+2,J⟩) underlying5 D (fun w' hS=>hS.1) ⟨XP,XQ,XS⟩ D (by kernel_rfl) ?_;refine PT ?_;refine Ord.e_p (v:=O Y (x2.toNat:Int)) D (by kernel_rfl) (fun w2=>by go_simp) ?_;refine PT ?_;refine Ord.K ?_;refine Ord.K ?_;refine cR (ad:=⟨g,off+3,J⟩) underlying5 D (fun w' hS=>hS.2.1) ⟨XP,XQ,XS⟩ D (by kernel_rfl) ?_;refine PT ?_;refine Ord.e_p (v:=O Y (x3.toNat:Int)) D (by kernel_rfl) (fun w2=>by go_simp) ?_;refine PT ?_;refine Ord.K ?_;refine Ord.K ?_;refine cR (ad:=⟨g,off+4,J⟩) underlying5 D (fun w' hS=>hS.2.2) ⟨XP,XQ,XS⟩ D (by kernel_rfl) ?_;refine PT ?_;refine Ord.e_p (v:=O Y (x4.toNat:Int)) D (by kernel_rfl) (fun w2=>by go_simp) ?_;refine PT ?_;iterate 5 refine Ord.K ?_
 refine Ord.X ?_;go_wp2_with(with_reducible refine sT [51] ?_);refine eL (wpList_store_row D _ _ _ D w.heap.size #[O Y (x2.toNat:Int),O Y (x3.toNat:Int),O Y (x4.toNat:Int),O Y (y5:Int),aL A9 n9 c9] D D _ _ hres (by kernel_rfl) D (by kernel_rfl) ?_);have cS:=setRow_heap _ _ _ (#[O Y (x2.toNat:Int),O Y (x3.toNat:Int),O Y (x4.toNat:Int),O Y (y5:Int),aL A9 n9 c9]:Array aT) _ _ hres;have hb5:=below_setRow hb9 (bM _) (#[O Y (x2.toNat:Int),O Y (x3.toNat:Int),O Y (x4.toNat:Int),O Y (y5:Int),aL A9 n9 c9]:Array aT);have q2:=(cell_setRow_other wd w.heap.size #[O Y (x2.toNat:Int),O Y (x3.toNat:Int),O Y (x4.toNat:Int),O Y (y5:Int),aL A9 n9 c9] ⟨g,off+2,J⟩ (Nat.ne_of_lt Kf)).trans XP;have q3:=(cell_setRow_other wd w.heap.size #[O Y (x2.toNat:Int),O Y (x3.toNat:Int),O Y (x4.toNat:Int),O Y (y5:Int),aL A9 n9 c9] ⟨g,off+3,J⟩ (Nat.ne_of_lt Kf)).trans XQ;have q4:=(cell_setRow_other wd w.heap.size #[O Y (x2.toNat:Int),O Y (x3.toNat:Int),O Y (x4.toNat:Int),O Y (y5:Int),aL A9 n9 c9] ⟨g,off+4,J⟩ (Nat.ne_of_lt Kf)).trans XS;have rA:=Vl EB aC8 (#[O Y (x2.toNat:Int),O Y (x3.toNat:Int),O Y (x4.toNat:Int),O Y (y5:Int),aL A9 n9 c9]:Array aT);generalize(wd.setRow w.heap.size #[O Y (x2.toNat:Int),O Y (x3.toNat:Int),O Y (x4.toNat:Int),O Y (y5:Int),aL A9 n9 c9])=v5 at*;have e0:=bL (i:=0) (v:=O Y (x2.toNat:Int)) cS D;have e1:=bL (i:=1) (v:=O Y (x3.toNat:Int)) cS D;have e2:=bL (i:=2) (v:=O Y (x4.toNat:Int)) cS D;have e3:=bL (i:=3) (v:=O Y (y5:Int)) cS D;have e4:=bL (i:=4) (v:=aL A9 n9 c9) cS D;clear XP XQ XS hb9 hres EB J4 hw3 NB cS;go_wp2_with fail;refine cC ⟨q2,q3,q4⟩ (fun h=>by cases h) ?_;refine PT ?_;refine Ord.K ?_;refine Ord.K ?_;refine cV ?_;go_wp2;refine bR (v:=aN #[aM #[O Y (x2.toNat:Int),O Y (x3.toNat:Int),O Y (x4.toNat:Int),O Y (y5:Int),aL A9 n9 c9],O Y (N:Int),O Y 0]) (by simp[results,go_sem,e0,e1,e2,e3,e4]) D ⟨A9,n9,c9,by rw[HP2.out,HTN.out,Hz.out];rfl,by rw[HP2.out];exact oA rA,(fun p hp=>by have:=eU rA (k:=p.block) (by rw[hp];rfl);omega),hb5⟩
theorem AF(sq sy co id:Int)(A:Option aW)(n c:Nat)(A':Option aW)(n' c':Nat)(v:List Int)(w:aS)(h:Rd w w.heap.size 1 A n c (v.map (Value.int Y)))(h':Rd w w.heap.size 1 A' n' c' (v.map (Value.int Y))):
  aU bH 46 #[aM #[O Y sq,O Y sy,O Y co,O Y id,aL A n c],aM #[O Y sq,O Y sy,O Y co,O Y id,aL A' n' c']] w fun e w'=>e=aJ (aG aF)∧aV w.heap.size w w':=by
 have a0:=bS w (aI #[O Y sq,O Y sy,O Y co,O Y id,aL A n c] 51);have hba:aV w.heap.size w (w.alloc (aI #[O Y sq,O Y sy,O Y co,O Y id,aL A n c] 51)):=(bP _ _).alloc (bM _) _;have hbb:aV (w.alloc (aI #[O Y sq,O Y sy,O Y co,O Y id,aL A n c] 51)).heap.size (w.alloc (aI #[O Y sq,O Y sy,O Y co,O Y id,aL A n c] 51)) ((w.alloc (aI #[O Y sq,O Y sy,O Y co,O Y id,aL A n c] 51)).alloc (aI #[O Y sq,O Y sy,O Y co,O Y id,aL A' n' c'] 51)):=(bP _ _).alloc (bM _) _;have a1:=bS (w.alloc (aI #[O Y sq,O Y sy,O Y co,O Y id,aL A n c] 51)) (aI #[O Y sq,O Y sy,O Y co,O Y id,aL A' n' c'] 51);have a2:=bV a0 hbb (bT a0);simp only[cL] at a1;have hb:=eI hba hbb;have c0:=bL (i:=0) (v:=O Y sq) a2 D;have c1:=bL (i:=1) (v:=O Y sy) a2 D;have c2:=bL (i:=2) (v:=O Y co) a2 D;have c3:=bL (i:=3) (v:=O Y id) a2 D;have c4:=bL (i:=4) (v:=aL A n c) a2 D;have d0:=bL (i:=0) (v:=O Y sq) a1 D;have d1:=bL (i:=1) (v:=O Y sy) a1 D;have d2:=bL (i:=2) (v:=O Y co) a1 D;have d3:=bL (i:=3) (v:=O Y id) a1 D;have d4:=bL (i:=4) (v:=aL A' n' c') a1 D;have h1:=h.nx hb;have h2:=h'.nx hb;clear a0 a1 a2 hba hbb;go_enter func46,ntmps46;go_wp2_with fail;go_fit(Rf A n c _ v A' n' c' _ v _ h1 (bM _) h2 (bM _));rintro e w2 ⟨rfl,hbx⟩;rw[dU D];have hbf:=eI hb hbx;clear h1 h2 hb hbx c0 c1 c2 c3 c4 d0 d1 d2 d3 d4;go_wp2;go_ret;exact⟨by simp,hbf⟩
end
end Go.Proofs.YtfoabhdppkjmbaaGreat
