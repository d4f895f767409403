import Derived.Test.YtfoabhdppkjmbaaGreatKZ22
import Derived.Test.YtfoabhdppkjmbaaGreatKZ23
set_option linter.unusedSimpArgs false
set_option linter.unusedVariables false
set_option maxHeartbeats 8000000
set_option maxRecDepth 20000
namespace Go.Proofs.YtfoabhdppkjmbaaGreat
open Bool renaming false→aD,true→aF
open Go renaming Addr→aW,Calls→aU,Ending→aX,Oper→bA,Program→aZ,Value→aT,World→aS
open Go.Ending renaming returned→aJ
open Go.IntKind renaming i64→Y,u8→aP
open Go.Obj renaming cells→aI
open Go.Proofs.Tryz renaming prog→bH,zeroCells84→bI,zeroCells86→bJ
open Go.RowKit renaming Below→aV,intOf→bE
open Go.Value renaming agg→aM,bool→aG,int→O,pointer→aK,slice→aL,tuple→aN
open Option renaming none→J,some→aE
open Go.Proofs.Tryz
namespace NumLaw
end NumLaw
section
open Go.RowKit NumLaw
abbrev eC:=@underlying86
structure yB where
 u:Nj
 n:Kh
 A:Option aW
 m:Nat
 c:Nat
def mU:yB:=⟨kZ,jH,J,0,0⟩
def Mx(P:KH)(A:Option aW)(n c:Nat):List aT:= [O Y P.sq,O Y P.sy,O Y P.co,O Y P.id,aL A n c]
def jR(x:wX)(a:yB):List aT:=O Y (x.proto:Int)::aG x.odd::(kC x.u a.u++(iE x.n a.n++Mx x.p a.A a.m a.c))
structure ItOk(x:wX):Prop where
 u:x.u.p.length=32∧x.u.d.length=8
 n:NmOk x.n
theorem ItOk.len{x:wX}(h:ItOk x)(a:yB):(jR x a).length=120:=by
 simp[jR,o9 h.u.1 h.u.2,h.n.len,Mx]
theorem ItOk.one{x:wX}(h:ItOk x)(a:yB):Ones (jR x a):=
 .cons D (.cons D (Ones.app (X4 _ _) (Ones.app (h.n.one _) (.cons D (.cons D (.cons D (.cons D (.cons D .nil))))))))
theorem Oq(k:Nat)(o:Bool):ItOk { nA with proto:=k,odd:=o } :=⟨⟨D,D⟩,kX⟩
structure ItR(w:aS)(B:Nat)(x:wX)(a:yB):Prop where
 u:UbR w B x.u a.u
 n:NmR w B x.n a.n
 p:Rd w B 1 a.A a.m a.c (x.p.v.map (Value.int Y))
theorem ItR.up{w w':aS}{B:Nat}{x:wX}{a:yB}(h:ItR w B x a)(hb:aV B w w'):ItR w' B x a:=⟨h.u.up hb,h.n.up hb,h.p.up hb⟩
theorem ItR.more{w:aS}{B B':Nat}{x:wX}{a:yB}(h:ItR w B x a)(hB:B≤B'):ItR w B' x a:=⟨h.u.more hB,h.n.more hB,h.p.more hB⟩
theorem ItR.nx{w w':aS}{x:wX}{a:yB}(h:ItR w w.heap.size x a)(hb:aV w.heap.size w w'):ItR w' w'.heap.size x a:=(h.up hb).more hb.size
theorem ItR.nil(w:aS)(B k:Nat)(o:Bool):ItR w B { nA with proto:=k,odd:=o } mU:=⟨rI _ _ _ D D,rJ _ _ _ D D,iH _ _ _⟩
def ItF(g:Nat)(a:yB):Prop:= ∀p,a.u.A=aE p∨a.u.A'=aE p∨a.n.A=aE p∨a.n.A'=aE p∨a.A=aE p→g≤p.block
theorem ItF.nil(g:Nat):ItF g mU:=fun p hp=>by
 rcases hp with h|h|h|h|h<;>cases h
theorem ItF.low{g g':Nat}{a:yB}(h:ItF g a)(hg:g'≤g):ItF g' a:=fun p hp=>bU hg (h p hp)
theorem ItR.aw{w w':aS}{x:wX}{a:yB}{g h0:Nat}(h:ItR w w.heap.size x a)(haw:Aw (fun k=>k=g) w w')(hf:ItF h0 a)(hg:g<h0):ItR w' w'.heap.size x a:=by
 have ne: ∀p:aW,h0≤p.block→p.block≠g:=fun p hp=>by omega
 refine⟨C7 h.u haw (fun p hp=>ne p (hf p ?_)),h.n.aw haw (fun p hp=>ne p (hf p ?_)),JE h.p (bM _) haw (fun p hp=>ne p (hf p ?_))⟩
 ·exact hp.elim .inl (fun h=> .inr (.inl h))
 ·exact hp.elim (fun h=> .inr (.inr (.inl h))) (fun h=> .inr (.inr (.inr (.inl h))))
 ·exact .inr (.inr (.inr (.inr hp)))
def KI(w:aS)(g:Nat)(x:wX)(a:yB):Prop:=w.heap[g]?=aE (aI (jR x a).toArray 86)
theorem kU{x:wX}(a:yB)(h:ItOk x):(Tryz.prog.info? 86).map (·.size)=aE (jR x a).toArray.size:=by rw[cG,h.len];kernel_rfl
theorem Ab{x:wX}(a:yB)(h:ItOk x):(bJ).size=(jR x a).toArray.size:=by
 have e:(bJ).size=120:=by kernel_rfl
 have e2:(jR x a).toArray.size=120:=by rw[cG,h.len]
 rw[e,e2]
def Xp(w:aS)(x:wX)(N er:Nat)(e:aX)(w':aS):Prop:=
 ∃a,e=aJ (aN #[aM (jR x a).toArray,O Y (N:Int),O Y (er:Int)])∧ItR w' w'.heap.size x a∧ItF w.heap.size a∧aV w.heap.size w w'
theorem WO: ∀w,(zeroValue 86).run bH w= .ok (aM (jR nA mU).toArray) w:=fun w=>by kernel_rfl
theorem Fj{k:Nat}{v:aT}{out:List aT}(hf:Instr.fill (#[(0,1),(1,1),(2,48),(50,65),(115,5)][·]?) (jR nA mU).toArray [(k,v)]=aE out.toArray)(w:aS):
  (Instr.build 86 #[(k,v)]).run bH w= .ok (.agg out.toArray) w:=
 xC eC WO (pl:= #[(0,1),(1,1),(2,48),(50,65),(115,5)]) (fun w=>by kernel_rfl) hf w
theorem ZM(V:Ed)(a:Nj)(h:V.p.length=32∧V.d.length=8)(w:aS):
  (Instr.build 86 #[(2,aM (kC V a).toArray)]).run bH w= .ok (aM (jR { nA with u:=V } { mU with u:=a }).toArray) w:=by
 refine Fj ?_ w
 rw[show(jR nA mU).toArray=(([O Y 0,aG aD]:List aT)++kC kH kZ++(iE nm0 jH++Mx NU J 0 0)).toArray from D,
  mE (off:=2) (size:=48) (cs:=kC V a) D D (o9 h.1 h.2) D D]
 simp only[Instr.fill];rfl
theorem YO(V:En)(a:Kh)(h:NmOk V)(w:aS):
  (Instr.build 86 #[(3,aM (iE V a).toArray)]).run bH w= .ok (aM (jR { nA with n:=V } { mU with n:=a }).toArray) w:=by
 refine Fj ?_ w
 rw[show(jR nA mU).toArray=(([O Y 0,aG aD]:List aT)++kC kH kZ++iE nm0 jH++Mx NU J 0 0).toArray from D,
  mE (off:=50) (size:=65) (cs:=iE V a) D D (h.len a) (nm0_ok.len jH) D]
 simp only[Instr.fill];simp[jR,nA,mU]
theorem ZH(P:KH)(A:Option aW)(n c:Nat)(w:aS):
  (Instr.build 86 #[(4,aM (Mx P A n c).toArray)]).run bH w= .ok (aM (jR { nA with p:=P } { mU with A:=A,m:=n,c:=c }).toArray) w:=by
 refine Fj ?_ w
 rw[show(jR nA mU).toArray=(([O Y 0,aG aD]:List aT)++kC kH kZ++iE nm0 jH++Mx NU J 0 0++ []).toArray from D,
  mE (off:=115) (size:=5) (cs:=Mx P A n c) D D D D D]
 simp only[Instr.fill];simp[jR,nA,mU]
end
section
open Go.RowKit NumLaw
attribute [local go_sem] Addr.add_mid
attribute [-go_sem] run_eql_struct run_neq_struct
theorem OR(A:Option aW)(n c B:Nat)(b:List UInt8)(w:aS)(h:Rd w B 1 A n c (bv b))(hB:B≤w.heap.size)(hn:n≤1000000):
  aU bH 139 #[aL A n c] w (Xp w { nA with u:=Ay b } (Be b) (Cx b)):=by
 have hres:=bS w (aI bJ 86);have hb:aV w.heap.size w (w.alloc (aI bJ 86)):=(bP _ _).alloc (bM _) _;have HC:=bK (Ld A n c B b _ (h.up (hb.mono hB)) (bU hB hb.size) hn);obtain⟨DV,Pt⟩: ∃x,x=Ay b:=⟨_,D⟩;obtain⟨DN,DZ⟩: ∃x,x=(Be b):=⟨_,D⟩;obtain⟨DE,Tz⟩: ∃x,x=(Cx b):=⟨_,D⟩;have HL:Hid (DV.p.length=32∧DV.d.length=8):=bK (by rw[Pt];exact B6 b)
 skip
 rw[←Pt,←DZ,←Tz] at HC ⊢;have hok:ItOk { nA with u:=DV } :=⟨HL.out,kX⟩;have HOK:=bK hok;clear h Pt DZ Tz hok;go_enter func139,ntmps139;go_wp2_with fail;go_fit HC.out;rintro e w2 ⟨a,rfl,hr,hf,hbx⟩;have dQ:=bV hres hbx (by simp);have hb2:=eI hb hbx;have hm:=bS w2 (aI #[O Y 0,O Y 0,O Y 0,O Y 0,O Y 0,O Y 0,O Y 0,O Y 0,O Y 0,O Y 0,O Y 0,O Y 0,O Y 0,O Y 0,O Y 0,O Y 0,O Y 0,O Y 0,O Y 0,O Y 0,O Y 0,O Y 0,O Y 0,O Y 0,O Y 0,O Y 0,O Y 0,O Y 0,O Y 0,O Y 0,O Y 0,O Y 0,O Y 0,O Y 0,aL J 0 0,O Y 0,O Y 0,O Y 0,O Y 0,O Y 0,O Y 0,O Y 0,O Y 0,aG aD,O Y 0,O Y 0,O Y 0,aL J 0 0] 65);have rW:aV w2.heap.size w2 (w2.alloc (aI #[O Y 0,O Y 0,O Y 0,O Y 0,O Y 0,O Y 0,O Y 0,O Y 0,O Y 0,O Y 0,O Y 0,O Y 0,O Y 0,O Y 0,O Y 0,O Y 0,O Y 0,O Y 0,O Y 0,O Y 0,O Y 0,O Y 0,O Y 0,O Y 0,O Y 0,O Y 0,O Y 0,O Y 0,O Y 0,O Y 0,O Y 0,O Y 0,O Y 0,O Y 0,aL J 0 0,O Y 0,O Y 0,O Y 0,O Y 0,O Y 0,O Y 0,O Y 0,O Y 0,aG aD,O Y 0,O Y 0,O Y 0,aL J 0 0] 65)):=(bP _ _).alloc (bM _) _;have hres3:=bV dQ rW (bT dQ);have hb3:=eI hb2 rW;have hg:=bT dQ;clear HC hbx hres hb dQ hb2;go_wp2_with(with_reducible refine sG [65] ?_);refine eL (bQ D _ _ _ D w2.heap.size (kC DV a).toArray D D _ _ hm (gC _ _ HL.out.1 HL.out.2) (kP (V:=kH) (a:=kZ) D D HL.out.1 HL.out.2) (oO _ _) ?_);have yO:=bW _ _ _ (kC DV a).toArray _ _ hm;have haw:=dZ (w:=w2.alloc (aI #[O Y 0,O Y 0,O Y 0,O Y 0,O Y 0,O Y 0,O Y 0,O Y 0,O Y 0,O Y 0,O Y 0,O Y 0,O Y 0,O Y 0,O Y 0,O Y 0,O Y 0,O Y 0,O Y 0,O Y 0,O Y 0,O Y 0,O Y 0,O Y 0,O Y 0,O Y 0,O Y 0,O Y 0,O Y 0,O Y 0,O Y 0,O Y 0,O Y 0,O Y 0,aL J 0 0,O Y 0,O Y 0,O Y 0,O Y 0,O Y 0,O Y 0,O Y 0,O Y 0,aG aD,O Y 0,O Y 0,O Y 0,aL J 0 0] 65)) w2.heap.size (kC DV a).toArray;have fM:=haw.keep hres3 (by omega);have hb4:=cJ hb3 haw (fun k hk=>by omega);have hr4:ItR w2 w2.heap.size { nA with u:=DV } { mU with u:=a } :=⟨hr,rJ _ _ _ D D,iH _ _ _⟩;replace hr4:=hr4.nx (cB rW (bM _) (kC DV a).toArray)
 have hF:ItF (w.heap.size+1) { mU with u:=a } :=fun p hp=>by
  have hf: ∀p:aW,a.A=aE p∨a.A'=aE p→w.heap.size+1≤p.block:=fun p hp=>by have:=hf p hp;simpa using this
  rcases hp with hp|hp|hp|hp|hp
  ·exact hf p (.inl hp)
  ·exact hf p (.inr hp)
  all_goals cases hp
 clear hm haw hres3 hb3 hr rW hf;generalize((w2.alloc (aI #[O Y 0,O Y 0,O Y 0,O Y 0,O Y 0,O Y 0,O Y 0,O Y 0,O Y 0,O Y 0,O Y 0,O Y 0,O Y 0,O Y 0,O Y 0,O Y 0,O Y 0,O Y 0,O Y 0,O Y 0,O Y 0,O Y 0,O Y 0,O Y 0,O Y 0,O Y 0,O Y 0,O Y 0,O Y 0,O Y 0,O Y 0,O Y 0,O Y 0,O Y 0,aL J 0 0,O Y 0,O Y 0,O Y 0,O Y 0,O Y 0,O Y 0,O Y 0,O Y 0,aG aD,O Y 0,O Y 0,O Y 0,aL J 0 0] 65)).setRow w2.heap.size (kC DV a).toArray)=w6 at*;go_wp2_with(with_reducible refine sG [65] ?_);refine eL (dI D _ _ D w2.heap.size D _ _ _ _ yO eJ D (gC _ _ HL.out.1 HL.out.2) ?_);have HBD:=bK (fun w=>ZM DV a HL.out w);go_wp2_with(with_reducible refine iB 86 ?_);refine eL (fR (parts:= #[(2,aM (kC DV a).toArray)]) (out:=jR { nA with u:=DV } { mU with u:=a }) (by simp only[eG,eE,fK];rfl) HBD.out ?_);go_wp2_with(with_reducible refine sG [86] ?_);refine eL (bQ D _ _ _ D w.heap.size (jR { nA with u:=DV } { mU with u:=a }).toArray D D _ _ fM (kU _ HOK.out) (Ab _ HOK.out) (HOK.out.one _).all ?_);have gQ:=bW _ _ _ (jR { nA with u:=DV } { mU with u:=a }).toArray _ _ fM;have hb7:=cB hb4 (bM _) (jR { nA with u:=DV } { mU with u:=a }).toArray;have hr7:=hr4.aw (dZ (w:=w6) w.heap.size (jR { nA with u:=DV } { mU with u:=a }).toArray) hF (iO _);simp only[Act.put];repeat go_step
 exact bR (iC D _ _ w.heap.size _ _ _ _ D gQ eC D (kU _ HOK.out)) D ⟨{ mU with u:=a },D,hr7,hF.low (iR _),hb7⟩
theorem RT(A:Option aW)(n c B:Nat)(b:List UInt8)(w:aS)(h:Rd w B 1 A n c (bv b))(hB:B≤w.heap.size)(hn:n≤1000000):
  aU bH 141 #[aL A n c] w (Xp w { nA with n:=Da (b.take 82) } (mT (b.take 82)).size (Gy (b.take 82))):=by
 have hres:=bS w (aI bJ 86);have hb:aV w.heap.size w (w.alloc (aI bJ 86)):=(bP _ _).alloc (bM _) _;have hlb:=h.blen;obtain⟨m,hm⟩: ∃m,m=min n 82:=⟨_,D⟩;have aC9:(⟨(b.take 82).toArray⟩:ByteArray).size≤1000:=by show(b.take 82).toArray.size≤1000;simp;omega
 have hcut: ∀w,(Instr.slice 22 (aL A n c) J (aE (O Y (m:Int))) J).run bH w= .ok (aL A m c) w:=by obtain⟨i0,hi⟩:=eW nP;exact tL (P:=bH) dH hi.1 A n c m (by have:=h.le;omega)
 have hrm:Rd w B 1 A m c (bv (b.take 82)):=by
  have:=h.btake (k:=m) (by omega)
  rwa[show b.take m=b.take 82 by
   rw[hm,←hlb];by_cases hq:b.length≤82
   ·rw[cH (by omega),cH hq]
   ·rw[Nat.min_eq_right (by omega)]] at this
 have v0:=fun w' (hw:aV B w w')=>SE w' 22 9 5 dH fO rO (hrm.up hw);have v1:=v0 _ (hb.mono hB);have hmi:min (n:Int) 82=(m:Int):=by omega
 have XC:min n 82=m:=hm.symm;clear hm;have HC:=bK (Nk ⟨(b.take 82).toArray⟩ aC9 (w.alloc (aI bJ 86)));rw[show sb ⟨(b.take 82).toArray⟩=b.take 82 from D] at HC;obtain⟨DV,Pt⟩: ∃x,x=Da (b.take 82):=⟨_,D⟩;obtain⟨DN,DZ⟩: ∃x,x=(mT (b.take 82)).size:=⟨_,D⟩;obtain⟨DE,Tz⟩: ∃x,x=(Gy (b.take 82)):=⟨_,D⟩;have HL:Hid (NmOk DV):=bK (by rw[Pt];exact Of _)
 skip
 rw[←Pt,←DZ,←Tz] at HC ⊢;have hok:ItOk { nA with n:=DV } :=⟨⟨D,D⟩,HL.out⟩;have HOK:=bK hok;clear h Pt DZ Tz hok;go_enter func141,ntmps141;go_wp2_with fail;go_fit HC.out;rintro e w2 ⟨a,rfl,hr,hf,hbx⟩;have dQ:=bV hres hbx (by simp);have hb2:=eI hb hbx;have hm:=bS w2 (aI bI 84);have rW:aV w2.heap.size w2 (w2.alloc (aI bI 84)):=(bP _ _).alloc (bM _) _;have hres3:=bV dQ rW (bT dQ);have hb3:=eI hb2 rW;have hg:=bT dQ;clear HC hbx hres hb dQ hb2;go_wp2_with(with_reducible refine sG [84] ?_);refine eL (bQ D _ _ _ D w2.heap.size (iE DV a).toArray D D _ _ hm (eO _ HL.out) (nL _ HL.out) (HL.out.one _).all ?_);have yO:=bW _ _ _ (iE DV a).toArray _ _ hm;have haw:=dZ (w:=w2.alloc (aI bI 84)) w2.heap.size (iE DV a).toArray;have fM:=haw.keep hres3 (by omega);have hb4:=cJ hb3 haw (fun k hk=>by omega);have hr4:ItR w2 w2.heap.size { nA with n:=DV } { mU with n:=a } :=⟨rI _ _ _ D D,hr,iH _ _ _⟩;replace hr4:=hr4.nx (cB rW (bM _) (iE DV a).toArray)
 have hF:ItF (w.heap.size+1) { mU with n:=a } :=fun p hp=>by
  have hf: ∀p:aW,a.A=aE p∨a.A'=aE p→w.heap.size+1≤p.block:=fun p hp=>by have:=hf p hp;simpa using this
  rcases hp with hp|hp|hp|hp|hp
  ·cases hp
  ·cases hp
  ·exact hf p (.inl hp)
  ·exact hf p (.inr hp)
  ·cases hp
 clear hm haw hres3 hb3 hr rW hf;generalize((w2.alloc (aI bI 84)).setRow w2.heap.size (iE DV a).toArray)=w6 at*;go_wp2_with(with_reducible refine sG [84] ?_);refine eL (dI D _ _ D w2.heap.size D _ _ _ _ yO dJ D (eO _ HL.out) ?_);have HBD:=bK (fun w=>YO DV a HL.out w);go_wp2_with(with_reducible refine iB 86 ?_);refine eL (fR (parts:= #[(3,aM (iE DV a).toArray)]) (out:=jR { nA with n:=DV } { mU with n:=a }) (by simp only[eG,eE,fK];rfl) HBD.out ?_);go_wp2_with(with_reducible refine sG [86] ?_);refine eL (bQ D _ _ _ D w.heap.size (jR { nA with n:=DV } { mU with n:=a }).toArray D D _ _ fM (kU _ HOK.out) (Ab _ HOK.out) (HOK.out.one _).all ?_);have gQ:=bW _ _ _ (jR { nA with n:=DV } { mU with n:=a }).toArray _ _ fM;have hb7:=cB hb4 (bM _) (jR { nA with n:=DV } { mU with n:=a }).toArray;have hr7:=hr4.aw (dZ (w:=w6) w.heap.size (jR { nA with n:=DV } { mU with n:=a }).toArray) hF (iO _);simp only[Act.put];repeat go_step
 exact bR (iC D _ _ w.heap.size _ _ _ _ D gQ eC D (kU _ HOK.out)) D ⟨{ mU with n:=a },D,hr7,hF.low (iR _),hb7⟩
theorem TX(A:Option aW)(n c B:Nat)(b:List UInt8)(w:aS)(h:Rd w B 1 A n c (bv b))(hB:B≤w.heap.size)(hn:n≤1000000):
  aU bH 143 #[aL A n c] w (Xp w { nA with p:=Ig b } (Db b) (Ak b)):=by
 have hres:=bS w (aI bJ 86);have hb:aV w.heap.size w (w.alloc (aI bJ 86)):=(bP _ _).alloc (bM _) _;have aDa: ∀ {w':aS},aV w.heap.size w w'→Rd w' w'.heap.size 1 A n c (bv b):=fun hw=>(h.up (hw.mono hB)).more (bU hB hw.size);have HC:=bK (Qt A n c b _ (aDa hb) hn);obtain⟨DV,Pt⟩: ∃x,x=Ig b:=⟨_,D⟩;obtain⟨DN,DZ⟩: ∃x,x=(Db b):=⟨_,D⟩;obtain⟨DE,Tz⟩: ∃x,x=(Ak b):=⟨_,D⟩;have HL:Hid (True):=bK (by exact cM);unfold Ue at HC;rw[←Pt,←DZ,←Tz] at HC ⊢;have hok:ItOk { nA with p:=DV } :=⟨⟨D,D⟩,kX⟩;have HOK:=bK hok;clear h Pt DZ Tz hok;go_enter func143,ntmps143;go_wp2_with fail;go_fit HC.out;rintro e w2 ⟨A2,n2,c2,rfl,hr,hf,hbx⟩;have dQ:=bV hres hbx (by simp);have hb2:=eI hb hbx;have hm:=bS w2 (aI #[O Y 0,O Y 0,O Y 0,O Y 0,aL J 0 0] 51);have rW:aV w2.heap.size w2 (w2.alloc (aI #[O Y 0,O Y 0,O Y 0,O Y 0,aL J 0 0] 51)):=(bP _ _).alloc (bM _) _;have hres3:=bV dQ rW (bT dQ);have hb3:=eI hb2 rW;have hg:=bT dQ;clear HC hbx hres hb dQ hb2;go_wp2_with(with_reducible refine sG [51] ?_);refine eL (bQ D _ _ _ D w2.heap.size (Mx DV A2 n2 c2).toArray D D _ _ hm (by kernel_rfl) D (by kernel_rfl) ?_);have yO:=bW _ _ _ (Mx DV A2 n2 c2).toArray _ _ hm;have haw:=dZ (w:=w2.alloc (aI #[O Y 0,O Y 0,O Y 0,O Y 0,aL J 0 0] 51)) w2.heap.size (Mx DV A2 n2 c2).toArray;have fM:=haw.keep hres3 (by omega);have hb4:=cJ hb3 haw (fun k hk=>by omega);have hr4:ItR w2 w2.heap.size { nA with p:=DV } { mU with A:=A2,m:=n2,c:=c2 } :=⟨rI _ _ _ D D,rJ _ _ _ D D,hr⟩;replace hr4:=hr4.nx (cB rW (bM _) (Mx DV A2 n2 c2).toArray)
 have hF:ItF (w.heap.size+1) { mU with A:=A2,m:=n2,c:=c2 } :=fun p hp=>by
  have hf: ∀p:aW,A2=aE p→w.heap.size+1≤p.block:=fun p hp=>by have:=hf p hp;simpa using this
  rcases hp with hp|hp|hp|hp|hp
  ·cases hp
  ·cases hp
  ·cases hp
  ·cases hp
  ·exact hf p hp
 clear hm haw hres3 hb3 hr rW hf;generalize((w2.alloc (aI #[O Y 0,O Y 0,O Y 0,O Y 0,aL J 0 0] 51)).setRow w2.heap.size (Mx DV A2 n2 c2).toArray)=w6 at*;go_wp2_with(with_reducible refine sG [51] ?_);refine eL (dI D _ _ D w2.heap.size D _ _ _ _ yO underlying51 D (by kernel_rfl) ?_);have HBD:=bK (fun w=>ZH DV A2 n2 c2 w);go_wp2_with(with_reducible refine iB 86 ?_);refine eL (fR (parts:= #[(4,aM (Mx DV A2 n2 c2).toArray)]) (out:=jR { nA with p:=DV } { mU with A:=A2,m:=n2,c:=c2 }) (by simp only[eG,eE,fK];rfl) HBD.out ?_);go_wp2_with(with_reducible refine sG [86] ?_);refine eL (bQ D _ _ _ D w.heap.size (jR { nA with p:=DV } { mU with A:=A2,m:=n2,c:=c2 }).toArray D D _ _ fM (kU _ HOK.out) (Ab _ HOK.out) (HOK.out.one _).all ?_);have gQ:=bW _ _ _ (jR { nA with p:=DV } { mU with A:=A2,m:=n2,c:=c2 }).toArray _ _ fM;have hb7:=cB hb4 (bM _) (jR { nA with p:=DV } { mU with A:=A2,m:=n2,c:=c2 }).toArray;have hr7:=hr4.aw (dZ (w:=w6) w.heap.size (jR { nA with p:=DV } { mU with A:=A2,m:=n2,c:=c2 }).toArray) hF (iO _);simp only[Act.put];repeat go_step
 exact bR (iC D _ _ w.heap.size _ _ _ _ D gQ eC D (kU _ HOK.out)) D ⟨{ mU with A:=A2,m:=n2,c:=c2 },D,hr7,hF.low (iR _),hb7⟩
abbrev kN:=@underlying102
def tQ(V:yY)(a:yB):List aT:= [O Y (V.do_:Int),O Y (V.proto:Int),O Y (V.size:Int),O Y (V.why:Int)]++jR V.it a
def vz:yY:=⟨0,0,0,0,nA⟩
theorem Bh{V:yY}(a:yB)(h:ItOk V.it):(tQ V a).length=124:=by simp[tQ,h.len]
theorem Ba{V:yY}(a:yB)(h:ItOk V.it):Ones (tQ V a):= .cons D (.cons D (.cons D (.cons D (h.one a))))
theorem it0_okk:ItOk nA:=Oq 0 aD
theorem yH{V:yY}(a:yB)(h:ItOk V.it):(Tryz.prog.info? 102).map (·.size)=aE (tQ V a).toArray.size:=by rw[cG,Bh a h];kernel_rfl
theorem Jw{V:yY}(a:yB)(h:ItOk V.it):(zeroCells102).size=(tQ V a).toArray.size:=by
 have e:(zeroCells102).size=124:=by kernel_rfl
 have e2:(tQ V a).toArray.size=124:=by rw[cG,Bh a h]
 rw[e,e2]
def Rz:Array (Nat × Nat):= #[(0,1),(1,1),(2,1),(3,1),(4,120)]
theorem Bz{ps:Array (Nat × aT)}{out:List aT}(hf:Instr.fill (Rz[·]?) (tQ vz mU).toArray ps.toList=aE out.toArray)(w:aS):
  (Instr.build 102 ps).run bH w= .ok (.agg out.toArray) w:=
 xC kN (fun w=>by kernel_rfl) (pl:=Rz) (fun w=>by kernel_rfl) hf w
section
variable (V:yY) (a:yB) (rest:List (Nat × Value))
theorem I5(d:Nat):Instr.fill (Rz[·]?) (tQ V a).toArray ((0,O Y (d:Int))::rest)=Instr.fill (Rz[·]?) (tQ { V with do_:=d } a).toArray rest:=
 mE (place:=(Rz[·]?)) (i:=0) (off:=0) (size:=1) D (cs:= [O Y (d:Int)]) (pre:= []) (olds:= [O Y (V.do_:Int)]) (post:= [O Y (V.proto:Int),O Y (V.size:Int),O Y (V.why:Int)]++jR V.it a) (v:=O Y (d:Int)) D D D D rest
theorem O8(d:Nat):Instr.fill (Rz[·]?) (tQ V a).toArray ((1,O Y (d:Int))::rest)=Instr.fill (Rz[·]?) (tQ { V with proto:=d } a).toArray rest:=
 mE (place:=(Rz[·]?)) (i:=1) (off:=1) (size:=1) D (cs:= [O Y (d:Int)]) (pre:= [O Y (V.do_:Int)]) (olds:= [O Y (V.proto:Int)]) (post:= [O Y (V.size:Int),O Y (V.why:Int)]++jR V.it a) (v:=O Y (d:Int)) D D D D rest
theorem GY(d:Nat):Instr.fill (Rz[·]?) (tQ V a).toArray ((2,O Y (d:Int))::rest)=Instr.fill (Rz[·]?) (tQ { V with size:=d } a).toArray rest:=
 mE (place:=(Rz[·]?)) (i:=2) (off:=2) (size:=1) D (cs:= [O Y (d:Int)]) (pre:= [O Y (V.do_:Int),O Y (V.proto:Int)]) (olds:= [O Y (V.size:Int)]) (post:= [O Y (V.why:Int)]++jR V.it a) (v:=O Y (d:Int)) D D D D rest
theorem V3(d:Nat):Instr.fill (Rz[·]?) (tQ V a).toArray ((3,O Y (d:Int))::rest)=Instr.fill (Rz[·]?) (tQ { V with why:=d } a).toArray rest:=
 mE (place:=(Rz[·]?)) (i:=3) (off:=3) (size:=1) D (cs:= [O Y (d:Int)]) (pre:= [O Y (V.do_:Int),O Y (V.proto:Int),O Y (V.size:Int)]) (olds:= [O Y (V.why:Int)]) (post:=jR V.it a) (v:=O Y (d:Int)) D D D D rest
theorem GN(h:ItOk V.it){X:wX}(hX:ItOk X)(a':yB):Instr.fill (Rz[·]?) (tQ V a).toArray ((4,aM (jR X a').toArray)::rest)=Instr.fill (Rz[·]?) (tQ { V with it:=X } a').toArray rest:=by
 have:=mE (place:=(Rz[·]?)) (i:=4) (off:=4) (size:=120) D (cs:=jR X a') (pre:= [O Y (V.do_:Int),O Y (V.proto:Int),O Y (V.size:Int),O Y (V.why:Int)]) (olds:=jR V.it a) (post:= []) (v:=aM (jR X a').toArray) D (hX.len a') (h.len a) D rest;rw[iX,iX] at this;exact this
end
def yx:Array (Nat × Nat):= #[(0,1),(1,1),(2,48),(50,65),(115,5)]
theorem RH(k:Nat)(w:aS):(Instr.build 86 #[(0,O Y (k:Int)),(1,aG aF)]).run bH w= .ok (aM (jR { nA with proto:=k,odd:=true } mU).toArray) w:=by
 refine xC eC WO (pl:=yx) (fun w=>by kernel_rfl) ?_ w;have e0:=mE (place:=(yx[·]?)) (i:=0) (off:=0) (size:=1) D (cs:= [O Y (k:Int)]) (pre:= []) (olds:= [O Y 0]) (post:=aG aD::(kC kH kZ++(iE nm0 jH++Mx NU J 0 0))) (v:=O Y (k:Int)) D D D D [(1,aG aF)];have e1:=mE (place:=(yx[·]?)) (i:=1) (off:=1) (size:=1) D (cs:= [aG aF]) (pre:= [O Y (k:Int)]) (olds:= [aG aD]) (post:=kC kH kZ++(iE nm0 jH++Mx NU J 0 0)) (v:=aG aF) D D D D [];refine kQ e0 (kQ e1 ?_);simp only[Instr.fill];rfl
theorem RC{w:aS}{g:Nat}{x:wX}{a:yB}(h:KI w g x a)(k:Nat):KI (w.setCell ⟨g,0,J⟩ (O Y (k:Int))) g { x with proto:=k } a:=by
 have:=cN (i:=0) h (O Y (k:Int));unfold KI;rw[this];congr 2
def Xk(w:aS)(V:yY)(e:aX)(w':aS):Prop:=
 ∃a,e=aJ (aM (tQ V a).toArray)∧ItR w' w'.heap.size V.it a∧ItF w.heap.size a∧aV w.heap.size w w'
theorem Mk(c:UInt8)(w:aS):aU bH 106 #[O aP (c.toNat:Int)] w fun e w'=>e=aJ (O Y (xI c:Int))∧aV w.heap.size w w':=by
 have hc: ∀k:Nat,k<256→(c=UInt8.ofNat k↔c.toNat=k):=fun k hk=>by
  constructor
  ·rintro rfl;simp;omega
  ·intro h;rw[←h];simp
 have h1:=hc 181 (by decide);have h2:=hc 36 (by decide);have h3:=hc 254 (by decide);have hP:xI c=if c.toNat=181 then 1 else if c.toNat=36 then 2 else if c.toNat=254 then 3 else 0:=by unfold xI;simp only[←h1,←h2,←h3];rfl
 rw[hP];generalize c.toNat=m at*;clear hc h1 h2 h3 hP;by_cases e1:m=181<;>by_cases e2:m=36<;>by_cases e3:m=254<;>first|(exfalso;omega)|skip
 all_goals
  first|subst e1|subst e2|subst e3|(have i1: ¬(m:Int)=181:=(by omega);have i2: ¬(m:Int)=36:=(by omega);have i3: ¬(m:Int)=254:=(by omega))
  go_enter func106,ntmps106;go_wp2;go_ret;first|exact⟨D,bP _ _⟩|exact⟨by rw[bX e1,bX e2,bX e3];rfl,bP _ _⟩
def VZ(k:Nat):Nat:=if k=1 then 139 else if k=2 then 141 else 143
theorem ns(k:Nat)(w:aS):aU bH 107 #[O Y (k:Int)] w fun e w'=>e=aJ (aM #[.func (.func (VZ k)) #[] #[]])∧aV w.heap.size w w':=by
 have hb: ∀o1,aV w.heap.size w (w.alloc o1):=fun o1=>(bP _ _).alloc (bM _) _;have Hb:=bK hb;clear hb;by_cases e1:k=1
 ·subst e1;go_enter func107,ntmps107;go_wp2;refine bR (v:=aM #[.func (.func 139) #[] #[]]) (by simp[results,go_sem]) D ⟨D,Hb.out _⟩
 by_cases e2:k=2
 ·subst e2;go_enter func107,ntmps107;go_wp2;refine bR (v:=aM #[.func (.func 141) #[] #[]]) (by simp[results,go_sem]) D ⟨D,Hb.out _⟩
 have i1: ¬(k:Int)=1:=by omega
 have i2: ¬(k:Int)=2:=by omega
 have e3:VZ k=143:=by unfold VZ;rw[bX e1,bX e2]
 rw[e3];clear e1 e2 e3;go_enter func107,ntmps107;go_wp2;refine bR (v:=aM #[.func (.func 143) #[] #[]]) (by simp[results,go_sem]) D ⟨D,Hb.out _⟩
theorem be(a:aT)(w:aS):(Instr.field 236 (aM #[a]) 0).run bH w= .ok a w:=by
 simp[Instr.field,eB,dE underlying236,asAgg,part,isAgg,dE underlying234]
abbrev tY:=@it0_okk
theorem YH(A:Option aW)(c:Nat)(w:aS):aU bH 70 #[aL A 0 c] w (Xk w vz):=by
 have hres:=bS w (aI zeroCells102 102);have hb:aV w.heap.size w (w.alloc (aI zeroCells102 102)):=(bP _ _).alloc (bM _) _;go_enter func70,ntmps70;have HBV:=bK (Bz (ps:= #[]) (out:=tQ vz mU) (by rfl));have HOK:=bK (tY);go_wp2_with(with_reducible refine iB 102 ?_);refine eL (fR (parts:= #[]) (out:=tQ vz mU) (by simp only[eG,eE,fK]<;>rfl) HBV.out ?_);go_wp2_with(with_reducible refine sG [102] ?_);refine eL (bQ D _ _ _ D w.heap.size (tQ vz mU).toArray D D _ _ hres (yH _ HOK.out) (Jw _ HOK.out) (Ba _ HOK.out).all ?_);have kK:=bW _ _ _ (tQ vz mU).toArray _ _ hres;have hb9:=cB hb (bM _) (tQ vz mU).toArray;simp only[Act.put];repeat go_step
 exact bR (dK D _ _ w.heap.size _ _ _ _ D kK kN D (yH _ HOK.out)) D ⟨mU,D,ItR.nil _ _ 0 aD,ItF.nil _,hb9⟩
theorem QQ(A:Option aW)(n c B:Nat)(x:UInt8)(l:List UInt8)(w:aS)(h:Rd w B 1 A n c (bv (x::l)))(hB:B≤w.heap.size)(hp:xI x=0):
  aU bH 70 #[aL A n c] w (Xk w ⟨1,0,0,3,nA⟩):=by
 have hres:=bS w (aI zeroCells102 102);have hb:aV w.heap.size w (w.alloc (aI zeroCells102 102)):=(bP _ _).alloc (bM _) _;have hln:0<n:=by have:=h.blen;simp at this;omega
 have Ao: ¬(n:Int)=0:=by omega
 have wB:(0:Int)<(n:Int):=by omega
 obtain⟨ad,y,rfl,hy,k0⟩:=(h.up (hb.mono hB)).byte hln;obtain⟨g,off,sp⟩:=ad;have J7:=lS k0
 obtain rfl:sp=J:=by
  cases sp with
  |none=>rfl
  |some s=>simp[Addr.add] at J7
 rw[lW,jV] at k0;obtain rfl:y=x:=by injection hy with hy;exact hy.symm
 have HP:=bK (Mk y (w.alloc (aI zeroCells102 102)));rw[hp] at HP;clear h hy hp hln J7;go_enter func70,ntmps70;go_wp2_with fail;go_fit HP.out;rintro e w2 ⟨rfl,hbx⟩;have dQ:=bV hres hbx (bT hres);have hb2:=eI hb hbx;clear HP hbx hres hb k0;have HBV:=bK (Bz (ps:= #[(0,O Y 1),(3,O Y 3)]) (out:=tQ ⟨1,0,0,3,nA⟩ mU) (by exact kQ (I5 vz mU [(3,O Y 3)] 1) (kQ (V3 _ mU [] 3) D)));have HOK:=bK (tY);go_wp2_with(with_reducible refine iB 102 ?_);refine eL (fR (parts:= #[(0,O Y 1),(3,O Y 3)]) (out:=tQ ⟨1,0,0,3,nA⟩ mU) (by simp only[eG,eE,fK]<;>rfl) HBV.out ?_);go_wp2_with(with_reducible refine sG [102] ?_);refine eL (bQ D _ _ _ D w.heap.size (tQ ⟨1,0,0,3,nA⟩ mU).toArray D D _ _ dQ (yH _ HOK.out) (Jw _ HOK.out) (Ba _ HOK.out).all ?_);have kK:=bW _ _ _ (tQ ⟨1,0,0,3,nA⟩ mU).toArray _ _ dQ;have hb9:=cB hb2 (bM _) (tQ ⟨1,0,0,3,nA⟩ mU).toArray;simp only[Act.put];repeat go_step
 exact bR (dK D _ _ w.heap.size _ _ _ _ D kK kN D (yH _ HOK.out)) D ⟨mU,D,ItR.nil _ _ 0 aD,ItF.nil _,hb9⟩
theorem AD(k:Nat)(args:Array aT)(w:aS):(callFunc (VZ k) args).run bH w= .ok (.enter (VZ k) args) w:=by
 unfold VZ;split
 ·kernel_rfl
 ·split
  ·kernel_rfl
  ·kernel_rfl
theorem JZ(A:Option aW)(n c B:Nat)(x:UInt8)(l:List UInt8)(w:aS)(h:Rd w B 1 A n c (bv (x::l)))(hB:B≤w.heap.size)(k:Nat)(hk:xI x=k)(pg:k≠0)(X:wX)(hX:ItOk X)(hXk:X.proto=0)(N E:Nat)
  (XT: ∀w',Rd w' B 1 A n c (bv (x::l))→B≤w'.heap.size→aU bH (VZ k) #[aL A n c] w' (Xp w' X N E)):
  aU bH 70 #[aL A n c] w (Xk w (sA k N E { X with proto:=k })):=by
 have hres:=bS w (aI zeroCells102 102);have hb:aV w.heap.size w (w.alloc (aI zeroCells102 102)):=(bP _ _).alloc (bM _) _;have hln:0<n:=by have:=h.blen;simp at this;omega
 have Ao: ¬(n:Int)=0:=by omega
 have wB:(0:Int)<(n:Int):=by omega
 have HH:=bK h;obtain⟨ad,y,rfl,hy,q0⟩:=(h.up (hb.mono hB)).byte hln;obtain⟨g,off,sp⟩:=ad;have J7:=lS q0
 obtain rfl:sp=J:=by
  cases sp with
  |none=>rfl
  |some s=>simp[Addr.add] at J7
 rw[lW,jV] at q0;obtain rfl:y=x:=by injection hy with hy;exact hy.symm
 have HP:=bK (Mk y (w.alloc (aI zeroCells102 102)));rw[hk] at HP;obtain⟨VD,hVD⟩: ∃V,V=sA k N E { X with proto:=k } :=⟨_,D⟩;rw[←hVD];have HVD:=bK hVD;have Hcall:=bK XT;have HX:=bK hX;have HX1:=bK (⟨hX.u,hX.n⟩:ItOk { X with proto:=k });have hki: ¬(k:Int)=0:=by omega
 clear h hy hk hln J7 XT hX hVD hXk;go_enter func70,ntmps70;go_wp2_with fail;go_fit HP.out;rintro e w2 ⟨rfl,hbx⟩;have dQ:=bV hres hbx (bT hres);have hb2:=eI hb hbx;clear HP hbx hres hb q0;go_wp2_with fail;go_fit(ns k w2);rintro e w3 ⟨rfl,hbx⟩;have hres3:=bV dQ hbx (bT dQ);have hb3:=eI hb2 hbx;have aDc:=fun w=>be (.func (.func (VZ k)) #[] #[]) w;have hcf:=AD k;clear hbx dQ hb2;go_wp2_with fail;go_fit(Hcall.out w3 (HH.out.up (hb3.mono hB)) (bU hB hb3.size));rintro e w4 ⟨a,rfl,hr,hf,hbx⟩;have fM:=bV hres3 hbx (bT hres3);have hb4:=eI hb3 hbx;have hF:ItF (w.heap.size+1) a:=hf.low (bT hres3);have hm:=bS w4 (aI bJ 86);have rW:aV w4.heap.size w4 (w4.alloc (aI bJ 86)):=(bP _ _).alloc (bM _) _;have cS:=bV fM rW (bT fM);have hb5:=eI hb4 rW;have hg:=bT fM;clear hbx hres3 hb3 aDc hcf fM hb4 hf;go_wp2_with(with_reducible refine sG [86] ?_);refine eL (bQ D _ _ _ D w4.heap.size (jR X a).toArray D D _ _ hm (kU _ HX.out) (Ab _ HX.out) (HX.out.one _).all ?_);have Cr:KI _ w4.heap.size X a:=bW _ _ _ (jR X a).toArray _ _ hm;have haw:=dZ (w:=w4.alloc (aI bJ 86)) w4.heap.size (jR X a).toArray;have iW:=haw.keep cS (by omega);have hb6:=cJ hb5 haw (fun k hk=>by omega);have ux:=cB rW (bM _) (jR X a).toArray;have ue:w4.heap.size<((w4.alloc (aI bJ 86)).setRow w4.heap.size (jR X a).toArray).heap.size:=bT Cr;clear hm haw cS hb5 rW;generalize((w4.alloc (aI bJ 86)).setRow w4.heap.size (jR X a).toArray)=w6 at*;have c0:w6.cell? ⟨w4.heap.size,0,J⟩=aE (O Y (X.proto:Int)):=bL (i:=0) Cr D;have f0:=bZ (i:=0) Cr;have haw:=gO (w:=w6) w4.heap.size 0 (O Y (k:Int));have Ko:=RC Cr k;have gQ:=haw.keep iW (by omega);have hb7:=cJ hb6 haw (fun k hk=>by omega);have hr7:=hr.nx (cJ ux haw (fun k hk=>by omega));have HY:=bK (bO Ko (bO gQ (bO hb7 (⟨hr7.u,hr7.n,hr7.p⟩:ItR _ _ { X with proto:=k } a))));clear Cr iW hb6 haw ux hr Ko gQ hb7 hr7;by_cases hN:N=0
 case neg=>
  have i1:(0:Int)<(N:Int):=by omega
  have i2:0<N:=by omega
  by_cases hE:E=0
  case neg=>
   have i3: ¬(E:Int)=0:=by omega
   have hV:VD=⟨2,k,N,E,{ nA with proto:=k,odd:=true }⟩:=by rw[HVD.out];unfold sA;rw[bY ⟨i2,hE⟩]
   clear HVD hN;subst hV;have HBI:=bK (fun w=>RH k w);go_wp2_with(with_reducible refine iB 86 ?_);obtain⟨_,gQ,hb7,_⟩:=HY.out;generalize(w6.setCell ⟨w4.heap.size,0,J⟩ (O Y (k:Int)))=w7 at*;refine eL (fR (parts:= #[(0,O Y (k:Int)),(1,aG aF)]) (out:=jR { nA with proto:=k,odd:=true } mU) (by simp only[eG,eE,fK]<;>rfl) HBI.out ?_);have HBV:=bK (Bz (ps:= #[(0,O Y 2),(1,O Y (k:Int)),(2,O Y (N:Int)),(3,O Y (E:Int)),(4,aM (jR { nA with proto:=k,odd:=true } mU).toArray)]) (out:=tQ ⟨2,k,N,E,{ nA with proto:=k,odd:=true }⟩ mU) (by exact kQ (I5 vz mU _ 2) (kQ (O8 _ mU _ k) (kQ (GY _ mU _ N) (kQ (V3 _ mU _ E) (kQ (GN _ mU _ tY (Oq k aF) mU) D))))));have HOK:=bK (Oq k aF);go_wp2_with(with_reducible refine iB 102 ?_);refine eL (fR (parts:= #[(0,O Y 2),(1,O Y (k:Int)),(2,O Y (N:Int)),(3,O Y (E:Int)),(4,aM (jR { nA with proto:=k,odd:=true } mU).toArray)]) (out:=tQ ⟨2,k,N,E,{ nA with proto:=k,odd:=true }⟩ mU) (by simp only[eG,eE,fK]<;>rfl) HBV.out ?_);go_wp2_with(with_reducible refine sG [102] ?_);refine eL (bQ D _ _ _ D w.heap.size (tQ ⟨2,k,N,E,{ nA with proto:=k,odd:=true }⟩ mU).toArray D D _ _ gQ (yH _ HOK.out) (Jw _ HOK.out) (Ba _ HOK.out).all ?_);have kK:=bW _ _ _ (tQ ⟨2,k,N,E,{ nA with proto:=k,odd:=true }⟩ mU).toArray _ _ gQ;have hb9:=cB hb7 (bM _) (tQ ⟨2,k,N,E,{ nA with proto:=k,odd:=true }⟩ mU).toArray;simp only[Act.put];repeat go_step
   exact bR (dK D _ _ w.heap.size _ _ _ _ D kK kN D (yH _ HOK.out)) D ⟨mU,D,ItR.nil _ _ k aF,ItF.nil _,hb9⟩
  subst hE;have hV:VD=⟨2,k,N,0,{ X with proto:=k }⟩:=by rw[HVD.out];unfold sA;rw[bX (fun h=>h.2 D),bY i2]
  clear HVD hN;subst hV;go_wp2_with(with_reducible refine sG [86] ?_);obtain⟨Ko,gQ,hb7,hr7⟩:=HY.out;clear HY;generalize(w6.setCell ⟨w4.heap.size,0,J⟩ (O Y (k:Int)))=w7 at*;refine eL (dI D _ _ D w4.heap.size D _ _ _ _ Ko eC D (kU _ HX1.out) ?_);have HBV:=bK (Bz (ps:= #[(0,O Y 2),(1,O Y (k:Int)),(2,O Y (N:Int)),(4,aM (jR { X with proto:=k } a).toArray)]) (out:=tQ ⟨2,k,N,0,{ X with proto:=k }⟩ a) (by exact kQ (I5 vz mU _ 2) (kQ (O8 _ mU _ k) (kQ (GY _ mU _ N) (kQ (GN _ mU _ tY HX1.out a) D)))));have HOK:=bK (HX1.out);go_wp2_with(with_reducible refine iB 102 ?_);refine eL (fR (parts:= #[(0,O Y 2),(1,O Y (k:Int)),(2,O Y (N:Int)),(4,aM (jR { X with proto:=k } a).toArray)]) (out:=tQ ⟨2,k,N,0,{ X with proto:=k }⟩ a) (by simp only[eG,eE,fK]<;>rfl) HBV.out ?_);go_wp2_with(with_reducible refine sG [102] ?_);refine eL (bQ D _ _ _ D w.heap.size (tQ ⟨2,k,N,0,{ X with proto:=k }⟩ a).toArray D D _ _ gQ (yH _ HOK.out) (Jw _ HOK.out) (Ba _ HOK.out).all ?_);have kK:=bW _ _ _ (tQ ⟨2,k,N,0,{ X with proto:=k }⟩ a).toArray _ _ gQ;have hb9:=cB hb7 (bM _) (tQ ⟨2,k,N,0,{ X with proto:=k }⟩ a).toArray;have xy:=hr7.aw (dZ (w:=w7) w.heap.size (tQ ⟨2,k,N,0,{ X with proto:=k }⟩ a).toArray) hF (iO _);simp only[Act.put];repeat go_step
  exact bR (dK D _ _ w.heap.size _ _ _ _ D kK kN D (yH _ HOK.out)) D ⟨a,D,xy,hF.low (iR _),hb9⟩
 subst hN;by_cases hE:E=2
 ·subst hE;have hV:VD=⟨0,k,0,0,nA⟩:=by rw[HVD.out];rfl
  clear HVD;subst hV;go_wp2_with(with_reducible refine iB 102 ?_);obtain⟨_,gQ,hb7,_⟩:=HY.out;clear HY;generalize(w6.setCell ⟨w4.heap.size,0,J⟩ (O Y (k:Int)))=w7 at*;have HBV:=bK (Bz (ps:= #[(0,O Y 0),(1,O Y (k:Int))]) (out:=tQ ⟨0,k,0,0,nA⟩ mU) (by exact kQ (I5 vz mU _ 0) (kQ (O8 _ mU _ k) D)));have HOK:=bK (tY);refine eL (fR (parts:= #[(0,O Y 0),(1,O Y (k:Int))]) (out:=tQ ⟨0,k,0,0,nA⟩ mU) (by simp only[eG,eE,fK]<;>rfl) HBV.out ?_);go_wp2_with(with_reducible refine sG [102] ?_);refine eL (bQ D _ _ _ D w.heap.size (tQ ⟨0,k,0,0,nA⟩ mU).toArray D D _ _ gQ (yH _ HOK.out) (Jw _ HOK.out) (Ba _ HOK.out).all ?_);have kK:=bW _ _ _ (tQ ⟨0,k,0,0,nA⟩ mU).toArray _ _ gQ;have hb9:=cB hb7 (bM _) (tQ ⟨0,k,0,0,nA⟩ mU).toArray;simp only[Act.put];repeat go_step
  exact bR (dK D _ _ w.heap.size _ _ _ _ D kK kN D (yH _ HOK.out)) D ⟨mU,D,ItR.nil _ _ 0 aD,ItF.nil _,hb9⟩
 have i3: ¬(E:Int)=2:=by omega
 have hV:VD=⟨1,k,0,E,nA⟩:=by rw[HVD.out];unfold sA;rw[bX (fun h=>absurd h.1 (by decide)),bX (by decide),bX hE]
 clear HVD;subst hV;go_wp2_with(with_reducible refine iB 102 ?_);obtain⟨_,gQ,hb7,_⟩:=HY.out;clear HY;generalize(w6.setCell ⟨w4.heap.size,0,J⟩ (O Y (k:Int)))=w7 at*;have HBV:=bK (Bz (ps:= #[(0,O Y 1),(1,O Y (k:Int)),(3,O Y (E:Int))]) (out:=tQ ⟨1,k,0,E,nA⟩ mU) (by exact kQ (I5 vz mU _ 1) (kQ (O8 _ mU _ k) (kQ (V3 _ mU _ E) D))));have HOK:=bK (tY);refine eL (fR (parts:= #[(0,O Y 1),(1,O Y (k:Int)),(3,O Y (E:Int))]) (out:=tQ ⟨1,k,0,E,nA⟩ mU) (by simp only[eG,eE,fK]<;>rfl) HBV.out ?_);go_wp2_with(with_reducible refine sG [102] ?_);refine eL (bQ D _ _ _ D w.heap.size (tQ ⟨1,k,0,E,nA⟩ mU).toArray D D _ _ gQ (yH _ HOK.out) (Jw _ HOK.out) (Ba _ HOK.out).all ?_);have kK:=bW _ _ _ (tQ ⟨1,k,0,E,nA⟩ mU).toArray _ _ gQ;have hb9:=cB hb7 (bM _) (tQ ⟨1,k,0,E,nA⟩ mU).toArray;simp only[Act.put];repeat go_step
 exact bR (dK D _ _ w.heap.size _ _ _ _ D kK kN D (yH _ HOK.out)) D ⟨mU,D,ItR.nil _ _ 0 aD,ItF.nil _,hb9⟩
theorem YC(A:Option aW)(n c B:Nat)(b:List UInt8)(w:aS)(h:Rd w B 1 A n c (bv b))(hB:B≤w.heap.size)(hn:n≤1000000):
  aU bH 70 #[aL A n c] w (Xk w (wK b)):=by
 cases b with
 |nil=>
  obtain rfl:n=0:=by have:=h.blen;simpa using this.symm
  exact YH A c w
 |cons x l=>
  by_cases h0:xI x=0
  ·have e:wK (x::l)=⟨1,0,0,3,nA⟩:=by unfold wK;dsimp only;rw[bY h0]
   rw[e];exact QQ A n c B x l w h hB h0
  by_cases h1:xI x=1
  ·have e:wK (x::l)=sA 1 (Be (x::l)) (Cx (x::l)) { nA with proto:=1,u:=Ay (x::l) } :=by unfold wK;dsimp only;rw[bX h0,bY h1]
   rw[e];exact JZ A n c B x l w h hB 1 h1 (by decide) { nA with u:=Ay (x::l) } ⟨B6 _,kX⟩ D _ _ (fun w' h' G3=>OR A n c B (x::l) w' h' G3 hn)
  by_cases h2:xI x=2
  ·have e:wK (x::l)=sA 2 (mT ((x::l).take 82)).size (Gy ((x::l).take 82)) { nA with proto:=2,n:=Da ((x::l).take 82) } :=by unfold wK;dsimp only;rw[bX h0,bX h1,bY h2]
   rw[e];exact JZ A n c B x l w h hB 2 h2 (by decide) { nA with n:=Da ((x::l).take 82) } ⟨⟨D,D⟩,Of _⟩ D _ _ (fun w' h' G3=>RT A n c B (x::l) w' h' G3 hn)
  have h3:xI x=3:=by have:=QS x;omega
  have e:wK (x::l)=sA 3 (Db (x::l)) (Ak (x::l)) { nA with proto:=3,p:=Ig (x::l) } :=by unfold wK;dsimp only;rw[bX h0,bX h1,bX h2]
  rw[e];exact JZ A n c B x l w h hB 3 h3 (by decide) { nA with p:=Ig (x::l) } ⟨⟨D,D⟩,kX⟩ D _ _ (fun w' h' G3=>TX A n c B (x::l) w' h' G3 hn)
abbrev tD:=@underlying104
theorem N0{proto n e:Nat}{x:wX}(h:ItOk x):ItOk (sA proto n e x).it:=by
 unfold sA
 repeat' split
 ·exact Oq proto aF
 ·exact h
 ·exact tY
 ·exact tY
theorem ZZ(b:List UInt8):ItOk (wK b).it:=by
 unfold wK;split
 ·exact tY
 ·repeat' split
  ·exact tY
  ·exact N0 ⟨B6 _,kX⟩
  ·exact N0 ⟨⟨D,D⟩,Of _⟩
  ·exact N0 ⟨⟨D,D⟩,kX⟩
def rZ(V:yY)(a:yB)(k:Nat):List aT:=tQ V a++ [O Y (k:Int)]
theorem Jp{V:yY}(a:yB)(k:Nat)(h:ItOk V.it):(rZ V a k).length=125:=by simp[rZ,Bh a h]
theorem JV{V:yY}(a:yB)(k:Nat)(h:ItOk V.it):Ones (rZ V a k):=(Ba a h).app (.cons D .nil)
theorem WN{V:yY}(a:yB)(k:Nat)(h:ItOk V.it):(Tryz.prog.info? 104).map (·.size)=aE (rZ V a k).toArray.size:=by rw[cG,Jp a k h];kernel_rfl
theorem WK{V:yY}(a:yB)(k:Nat)(h:ItOk V.it):(zeroCells104).size=(rZ V a k).toArray.size:=by
 have e:(zeroCells104).size=125:=by kernel_rfl
 have e2:(rZ V a k).toArray.size=125:=by rw[cG,Jp a k h]
 rw[e,e2]
def zb:Array (Nat × Nat):= #[(0,124),(124,1)]
theorem lu{V:yY}(a:yB)(k:Nat)(h:ItOk V.it)(w:aS):(Instr.build 104 #[(0,aM (tQ V a).toArray),(1,O Y (k:Int))]).run bH w= .ok (aM (rZ V a k).toArray) w:=by
 refine xC tD (zs:=rZ vz mU 0) (fun w=>by kernel_rfl) (pl:=zb) (fun w=>by kernel_rfl) ?_ w;have e0:=mE (place:=(zb[·]?)) (i:=0) (off:=0) (size:=124) D (cs:=tQ V a) (pre:= []) (olds:=tQ vz mU) (post:= [O Y 0]) (v:=aM (tQ V a).toArray) D (Bh a h) (Bh mU tY) D [(1,O Y (k:Int))];have e1:=mE (place:=(zb[·]?)) (i:=1) (off:=124) (size:=1) D (cs:= [O Y (k:Int)]) (pre:=tQ V a) (olds:= [O Y 0]) (post:= []) (v:=O Y (k:Int)) D D D (Bh a h) [];refine kQ e0 ?_;rw[iX] at e1;refine kQ e1 ?_;rw[iX];rfl
def PS(B:Nat)(x:yY × Nat)(vs:Array aT)(Wp W:aS):Prop:=B≤Wp.heap.size∧∃a,vs= #[aM (rZ x.1 a x.2).toArray]∧ItR W W.heap.size x.1.it a∧ItF Wp.heap.size a∧ItOk x.1.it
theorem Rd.keepB{w w':aS}{B n c:Nat}{A:Option aW}{xs:List aT}(h:Rd w B 1 A n c xs)(hk:0<n→∀a,A=aE a→w'.heap[a.block]?=w.heap[a.block]?):Rd w' B 1 A n c xs:=
 ⟨h.len,h.le,h.max,fun hn=>by
  obtain⟨ad,e,hb,hc⟩:=h.at_ hn
  exact⟨ad,e,hb,fun j u hu=>by
   have:=hc j u hu;rw[World.cell?] at this ⊢;rw[show(ad.add j).block=ad.block by unfold Addr.add;split<;>rfl] at this ⊢;rw[hk (by omega) _ e]
   exact this⟩⟩
theorem Lw(A:Option aW)(n c:Nat)(w:aS):
  aU bH 43 #[aL A n c] w fun e w'=>e=aJ (.func (.func 69) #[] #[aK (aE ⟨w.heap.size,0,J⟩)])∧w'=w.alloc (aI #[aL A n c] 22):=by
 go_enter func43,ntmps43;go_wp2;go_ret;exact⟨by simp,D⟩
theorem Wt{f:Nat}{b:List UInt8}{k:Nat}(h:(wK (b.drop k)).do_=0):kV (f+1) b k= [(wK (b.drop k),k)]:=by rw[qU,bY h]
theorem L8(g1:Nat)(A:Option aW)(n c B:Nat)(b:List UInt8)(m:Nat)(hn:n≤100000):
  mf bH m 69 #[aK (aE ⟨g1,0,J⟩)] (PS B) (fun k=>k=g1∨(0<n∧∃a,A=aE a∧a.block=k)) (fun _=>False) (kV (n+1) b 0)
   (fun W=>W.heap[g1]?=aE (aI #[aL A n c] 22)∧Rd W B 1 A n c (bv b)∧B≤W.heap.size):=by
 rintro l0 aB Jx W ⟨h1,h3,h4⟩ hJ hJx hY h0;have Lk:Fence.wide.round=J:=D;have oJ:b.length=n:=h3.blen;have Hll:=bK oJ;obtain⟨i0,hi⟩:=eW nP;have Hi:=bK hi;obtain⟨xs,EG⟩: ∃v,v=kV (n+1) b 0:=⟨_,D⟩;have Hxs:=bK EG;rw[←EG] at hY ⊢;clear oJ EG hi;refine callsIn_of_wp func69 D cM ?_ Lk;simp only[ntmps69,cG,dM,hH,Nat.reduceAdd,Nat.reduceSub,gH,gG,iQ,gR,eF,dS];gi_wp2_with fail;gi_loopw [3] (fun i wr=> ∃(p f:Nat) (pre:List (yY × Nat)),i=O Y p∧Hid (xs=pre++kV f b p∧n<f+p)∧p≤n∧aB pre wr∧wr.heap[g1]?=aE (aI #[aL A n c] 22)∧Rd wr B 1 A n c (bv b)∧B≤wr.heap.size) (fun i wr=>n+1-(bE i).toNat);case atStart=>exact⟨0,n+1,[],D,bK ⟨by rw[Hxs.out];rfl,by omega⟩,by omega,h0,h1,h3,h4⟩
 case round=>
  clear h0 h1 h3 h4 W;obtain⟨p,f,pre,rfl,Hp,qc,hj,h1,h3,h4⟩:=hrel;have c1:wr.cell? ⟨g1,0,J⟩=aE (aL A n c):=bL h1 D;have hmc:=h3.le;have hcut: ∀w,(Instr.slice 22 (aL A n c) (aE (O Y (p:Int))) J J).run bH w= .ok (aL (oH A c p 1) (n-p) (c-p)) w:=fun w=>rG (P:=bH) dH Hi.out.1 Hi.out.2.2.1 A n c p qc w;have Hat:=bK (YC (oH A c p 1) (n-p) (c-p) B (b.drop p) wr (h3.bdrop qc) h4 (by omega));obtain⟨f',hf⟩: ∃f',f=f'+1:=⟨f-1,by have:=Hp.out.2;omega⟩;have Hf:=bK hf;obtain⟨V,hV⟩: ∃V,V=wK (b.drop p):=⟨_,D⟩;have hok:ItOk V.it:=by rw[hV];exact ZZ _
  have HOK:=bK hok;have HV:=bK hV;have iJ:V.size≤n-p:=by have:=Xu (b.drop p);rw[iA,Hll.out,←hV] at this;exact this
  have Hpre:Hid (pre++ [(V,p)]<+:xs):=bK (by
   rw[Hp.out.1,hf,qU,←hV];split
   ·exact⟨[],by simp⟩
   ·exact⟨_,by rw[gA];rfl⟩)
  rw[←hV] at Hat;clear hf hV hok;gi_wp2_with fail;clear c1 hcut;refine⟨cM,fun hd=>by simp[Fence.wide] at hd,(callsIn_wide.2 Hat.out).mono ?_⟩;rintro e w2 ⟨a,rfl,hr,hF,hb2⟩;have hm:=bS w2 (aI zeroCells102 102);have rW:aV w2.heap.size w2 (w2.alloc (aI zeroCells102 102)):=(bP _ _).alloc (bM _) _;have hb3:=eI hb2 rW;gi_wp2_with(with_reducible refine yL 102 ?_);refine eL (H7 D (bQ D _ _ _ D w2.heap.size (tQ V a).toArray D D _ _ hm (yH _ HOK.out) (Jw _ HOK.out) (Ba _ HOK.out).all ⟨D,?_⟩));have Cr:=bW _ _ _ (tQ V a).toArray _ _ hm;have hb6:=cB hb3 hb2.size (tQ V a).toArray;have hr6:=hr.nx (cB rW (bM _) (tQ V a).toArray);have yV:=bT Cr;have hgz:=hb2.size;clear hm rW hb3 hr Hat;generalize((w2.alloc (aI zeroCells102 102)).setRow w2.heap.size (tQ V a).toArray)=w6 at*;generalize w2.heap.size=g2 at*;have q1:=bV h1 hb6 (bT h1);have q3:=h3.up (hb6.mono h4);have q4:=bU h4 hb6.size;have hab:=eS (U:=fun _=>False) hb6;have hE:PS B (V,p) #[aM (rZ V a p).toArray] wr w6:=⟨h4,a,D,hr6,hF,HOK.out⟩;obtain⟨fn,tmps,assign,body,hy,hR⟩:=hY _ _ _ wr w6 hj hab Hpre.out hE;have HR:=bK hR
  have HgB:Hid (∀a,A=aE a→0<n→a.block<w6.heap.size):=bK (fun a e Ao=>by
   obtain⟨ad,e',hb',_⟩:=q3.at_ Ao;rw[e] at e';injection e' with e';rw[e']
   omega)
  clear hR hr6 hb2 hb6 h1 h3 h4 hj hab hE;gi_wp2_with(with_reducible refine Wn 102 ?_);refine eL (H7 D (dI D _ _ D g2 D _ _ _ _ Cr kN D (yH _ HOK.out) ⟨D,?_⟩));have HBD:=bK (fun w=>lu a p HOK.out w);gi_wp2_with(with_reducible refine Qo 104 ?_);refine eL (H7 D (fR (parts:= #[(0,aM (tQ V a).toArray),(1,O Y (p:Int))]) (out:=rZ V a p) (by simp only[eG,eE,fK]<;>rfl) HBD.out ⟨D,?_⟩));gi_wp2_with fail;refine⟨fun hd=>by simp[Fence.wide] at hd,HR.out.mono ?_⟩;rintro e W3 (⟨rfl,Ey,hk3⟩|⟨rfl,De⟩)
  ·have s1:=hk3.2 _ _ (.inl (.inl D)) q1
   have s3:Rd W3 B 1 A n c (bv b):=Rd.keepB q3 (fun Ao a e=>by
    obtain⟨o,ho⟩: ∃o,w6.heap[a.block]?=aE o:=⟨_,dL (HgB.out a e Ao)⟩;rw[ho]
    exact hk3.2 _ _ (.inl (.inr ⟨Ao,a,e,D⟩)) ho)
   have s4:=bU q4 hk3.1;have sm:=hk3.2 _ _ (.inr ⟨hgz,yV⟩) Cr;have d0:W3.cell? ⟨g2,0,J⟩=aE (O Y (V.do_:Int)):=bL (i:=0) sm D;have d2:W3.cell? ⟨g2,2,J⟩=aE (O Y (V.size:Int)):=bL (i:=2) sm D;clear q1 q3 q4 hk3 hy HR sm Cr;by_cases h0:V.do_=0
   ·have hx:xs=pre++ [(V,p)]:=by rw[Hp.out.1,Hf.out,Wt (by rw[←HV.out];exact h0),←HV.out]
    rw[←hx] at Ey;have qb:(V.do_:Int)=0:=by omega
    clear d2 hx;gi_wp2;refine bR (cT D _ _ _) D ?_;exact⟨⟨_,D⟩,.inl Ey⟩
   ·have qb: ¬(V.do_:Int)=0:=by omega
    have Am:p<n:=by
     rcases iD p n with h|h
     ·exact h
     ·exact absurd (by rw[HV.out];exact O9 (by rw[Hll.out];exact h)) h0
    obtain⟨mx,hmx⟩: ∃mx,mx=max V.size 1:=⟨_,D⟩;have Hmx:=bK hmx;have hx:xs=(pre++ [(V,p)])++kV f' b (p+mx):=by rw[Hp.out.1,Hf.out,qU,←HV.out,bX h0,hmx];simp
    have Hx:=bK hx;have m1:max (V.size:Int) 1=(mx:Int):=by omega
    have m2:max V.size 1=mx:=hmx.symm;have m3:1≤mx∧p+mx≤n:=by omega
    have J4:IntKind.i64.wrap ((p:Int)+(mx:Int))=(p:Int)+(mx:Int):=fV _ (by omega);clear hx hmx;gi_wp2;go_roundw;case rel=>exact⟨p+mx,f',pre++ [(V,p)],by go_num,bK ⟨Hx.out,by have:=Hp.out.2;have:=Hf.out;omega⟩,by omega,Ey,s1,s3,s4⟩
    case measure=>simp[bE];omega
  ·clear q1 q3 q4 hy HR;gi_wp2;refine bR (cT D _ _ _) D ?_;exact⟨⟨_,D⟩,.inr ⟨_,Hpre.out,De⟩⟩
end
section
open Go.RowKit Go.Shelf NumLaw
attribute [local go_sem] Addr.add_mid
attribute [-go_sem] run_eql_struct run_neq_struct
abbrev jP:=@wpList_load_mid
abbrev pI:=@ntmps23
abbrev rB:=@func23
namespace Ord
theorem sched_m{P:aZ}{l:List bA}{a:Act}{w:aS}{Q:Exit→Act→aS→Prop}(X:List Nat)(Ls:List (List Nat))(S:aS→Prop)(G:Bool)(F:List Tmp)(hm:P.follows .mixedOrders=aF)(hc:chkM P l.toArray G F X Ls=aF)(hS:S w.drew)
  (t:Nat) (h: ∀L∈Ls,wpE P l.toArray ⟨S,G,F⟩ (Q .normal) (lst l.toArray L) a w.drew):wpOps P l.toArray Q (Region.schedule (P.follows .mixedOrders) l.toArray t) a w.drew:=by
 simp only[chkM,dP] at hc;obtain⟨⟨⟨⟨h1,h2⟩,h3⟩,h4⟩,h5⟩:=hc;simp only[Region.schedule,hm,Bool.true_or,qK];have hall: ∀L∈Ls,L.Pairwise (· ≠ ·)∧(∀i,i∈L↔i<l.toArray.size)∧L.length=l.toArray.size∧L.Pairwise (fun j i=>i≠j∧(((masks l.toArray).getD i 0).testBit j=aF∨commI P l.toArray G F j i=aF∨(j∈X∧i∈X))):=by intro L hL;have:=List.all_eq_true.1 h5 L hL;simp only[dP,mI] at this;obtain⟨⟨⟨g1,g2⟩,g3⟩,g4⟩:=this;have hp:=pairM_spec g1;refine⟨hp.imp fun h=>oL h.1,fun i=>⟨fun hi=>by simpa using List.all_eq_true.1 g3 i hi,fun hi=>by simpa using List.all_eq_true.1 g2 i (List.mem_range.2 hi)⟩,g4,hp⟩
 have hne: ∃L0,L0∈Ls:=by
  have:Ls.isEmpty=aD:=by cases hX:X.length<;>rw[hX] at h4<;>simp[cov] at h4<;>simp[h4]
  cases Ls with
  |nil=>cases this
  |cons L r=>exact⟨L,cP⟩
 obtain⟨L0,hL0⟩:=hne;obtain⟨e1,e2,e3,_⟩:=hall L0 hL0
 have dg:=lin_valid (ops:=l.toArray) h2 l.toArray.size t (Array.replicate l.toArray.size aD) L0 e3 (by simp) (fun i=>by
  rw[e2 i];constructor
  ·intro hi;refine⟨hi,?_⟩;simp at hi;simp[hi]
  ·exact fun hi=>hi.1) e1 (fun k o hk hl=>by
   obtain⟨Td,_⟩:=Array.getElem?_eq_some_iff.1 hk;simp at Td
   simp[Td] at hl)
 change wpOps P l.toArray Q (Region.linearise.go .any l.toArray l.toArray.size t (Array.replicate l.toArray.size aD) []) a w.drew;generalize Region.linearise.go .any l.toArray l.toArray.size t (Array.replicate l.toArray.size aD) []=s at*;obtain⟨W9,hv⟩:=dg;obtain⟨L,hL,hp⟩:=cov_spec s X.length X Ls h4 (bM _) (fun i hi=>(W9 i).2 ((e2 i).2 (by simpa using List.all_eq_true.1 h3 i hi))) hv;obtain⟨f1,f2,f3,f4⟩:=hall L hL;refine ops_of (G:=⟨S,G,F⟩) h1 s L a _ (fun i=>by rw[W9 i,e2 i,f2 i]) (hv.imp fun h=>h.1) ?_ (fun i hi=>(e2 i).1 ((W9 i).1 hi)) hS (h L hL);have hb:=pairwise_before f1;refine(f4.and hb).imp fun {j i} h=>⟨oL h.1.1,fun ha=> ?_⟩;rcases h.1.2 with g|g|⟨g1,g2⟩
 ·rw[valid_not hv ha] at g;cases g
 ·exact g
 ·exact hp j i g1 g2 ha h.2
end Ord
theorem EU{P:aZ}{n l:Nat}{ops:Array bA}{Q:Exit→Act→aS→Prop}(hn:Bx ops=aF)(hQ: ¬LetsOut Q): ∀(s:List Nat) (a:Act) (w:aS),wpOps P ops Q s a w→wpOpsIn (Fence.wide.inRound l) n P ops Q s a w
 | [],_,_,h=>h
 |_::s,_,_,h=>wpOpIn_mono (fun a' w' h'=>EU hn hQ s a' w' h') (J1 hn hQ h)
theorem Ord.regionIn_m{P:aZ}{n l0:Nat}{id:Nat}{l:List bA}{a:Act}{w:aS}{Q:Exit→Act→aS→Prop}(X:List Nat)(Ls:List (List Nat))(S:aS→Prop)(G:Bool)(F:List Tmp)(hm:P.follows .mixedOrders=aF)(hc:Ord.chkM P l.toArray G F X Ls=aF)(hn:Bx l.toArray=aF)(hQ: ¬LetsOut Q)(hS:S w.drew)
  (h: ∀L∈Ls,Ord.wpE P l.toArray ⟨S,G,F⟩ (Q .normal) (Ord.lst l.toArray L) a w.drew):(Code.region id l.toArray aF).wpIn (Fence.wide.inRound l0) n P Q a w:=
 wpIn_region_draw fun t=>EU hn hQ _ _ _ (Ord.sched_m X Ls S G F hm hc hS t h)
theorem Qg{U:Nat→Prop}{w w':aS}{B size n c:Nat}{A:Option aW}{ls:List (List aT)}(h:RdR w B size A n c ls)(hB:B≤w.heap.size)(ha:Aw U w w')(hf:0<n→∀p,A=aE p→¬U p.block):RdR w' w'.heap.size size A n c ls:=
 ⟨h.1,h.2.1,h.2.2.1,h.2.2.2.1,fun hn=>by
  obtain⟨b,off,e,hg,hr⟩:=h.2.2.2.2 hn;have hbw:b<w.heap.size:=cI hg hB;refine⟨b,off,e,cI hbw ha.size,fun k r hk j v hv=> ?_⟩;have h1:=hr k r hk j v hv;have h2:=ha.block b hbw (hf hn _ e);unfold World.cell? at h1 ⊢;rw[h2]
  exact h1⟩
def Jj(a:yB):List (Option aW × Nat):= [(a.u.A,a.u.n),(a.u.A',a.u.n'),(a.n.A,a.n.n),(a.n.A',a.n.n'),(a.A,a.m)]
def mb(a:yB)(k:Nat):Prop:= ∀r∈Jj a,0<r.2→∀p,r.1=aE p→p.block≠k
theorem ItF.off{g k:Nat}{a:yB}(h:ItF g a)(hk:k<g):mb a k:=fun r hr _ p hp=>by
 have:g≤p.block:=h p (by
  simp only[Jj,fL,fY,oY] at hr;rcases hr with rfl|rfl|rfl|rfl|rfl
  ·exact .inl hp
  ·exact .inr (.inl hp)
  ·exact .inr (.inr (.inl hp))
  ·exact .inr (.inr (.inr (.inl hp)))
  ·exact .inr (.inr (.inr (.inr hp))))
 omega
theorem Rd.low{w:aS}{B size n c:Nat}{A:Option aW}{xs:List aT}(h:Rd w B size A n c xs)(hn:0<n){p:aW}(hp:A=aE p):p.block<B:=by
 obtain⟨ad,e,hg,_⟩:=h.at_ hn;rw[hp] at e;injection e with e;rw[e];exact hg
theorem RdR.low{w:aS}{B size n c:Nat}{A:Option aW}{ls:List (List aT)}(h:RdR w B size A n c ls)(hn:0<n){p:aW}(hp:A=aE p):p.block<B:=by
 obtain⟨b,off,e,hg,_⟩:=h.2.2.2.2 hn;rw[hp] at e;injection e with e;rw[e];exact hg
theorem ItR.offNew{w:aS}{B k:Nat}{x:wX}{a:yB}(h:ItR w B x a)(hk:B≤k):mb a k:=fun r hr hn p hp=>by
 have:p.block<B:=by
  simp only[Jj,fL,fY,oY] at hr;rcases hr with rfl|rfl|rfl|rfl|rfl
  ·exact h.u.s.low hn hp
  ·exact h.u.q.low hn hp
  ·exact h.n.s.low hn hp
  ·exact h.n.q.low hn hp
  ·exact h.p.low hn hp
 omega
theorem ItR.awD{U:Nat→Prop}{w w':aS}{x:wX}{a:yB}(h:ItR w w.heap.size x a)(ha:Aw U w w')(hf: ∀k,U k→mb a k):ItR w' w'.heap.size x a:=by
 have ne: ∀r∈Jj a,0<r.2→∀p,r.1=aE p→¬U p.block:=fun r hr hn p hp hu=>hf _ hu r hr hn p hp D;simp only[Jj,List.forall_mem_cons,fY,false_implies,implies_true,and_true] at ne;obtain⟨n1,n2,n3,n4,n5⟩:=ne;exact⟨⟨Qg h.u.s (bM _) ha n1,Qg h.u.q (bM _) ha n2⟩,⟨YI h.n.s (bM _) ha n3,Qg h.n.q (bM _) ha n4⟩,YI h.p (bM _) ha n5⟩
structure E7 where
 inn:Nat
 g:Nat→Nat
 o:Nat→Nat
 b:Nat→Nat
def SK(f:Nat→Nat):List aT:= [O Y (f 0:Int),O Y (f 1:Int),O Y (f 2:Int),O Y (f 3:Int)]
def e7(C:E7):List aT:=O Y (C.inn:Int)::(SK C.g++(SK C.o++SK C.b))
def Wh(f:Nat→Nat)(p:Nat):Nat→Nat:=fun q=>if q=p then f q+1 else f q
def rX(C:E7)(x:wX)(p:Nat):E7:=if x.odd=aF then { C with o:=Wh C.o p } else { C with g:=Wh C.g p }
def nb(w:aS)(gc:Nat)(C:E7)(V:yY)(a:yB)(e:aX)(w':aS):Prop:=
 e=aJ (aM (jR V.it a).toArray)∧w'.heap[gc]?=aE (aI (e7 (rX C V.it V.proto)).toArray 27)∧Aw (fun k=>k=gc) w w'
theorem I6(V:yY)(a:yB)(k gc:Nat)(C:E7)(w:aS)(hok:ItOk V.it)(hp:V.proto≤3)(hg: ∀p,C.g p≤1000000)(ho: ∀p,C.o p≤1000000)(hc:w.heap[gc]?=aE (aI (e7 C).toArray 27)):
  aU bH 23 #[aM (rZ V a k).toArray,aK (aE ⟨gc,0,J⟩)] w (nb w gc C V a):=by
 obtain⟨hs,hres,iJ,hb⟩:=yZ w (aI (rZ V a k).toArray 104) (aI bJ 86);have OG:=bT hc;have Aq:=bV hc hb OG;have haw:Aw (fun k=>k=gc) w ((w.alloc (aI (rZ V a k).toArray 104)).alloc (aI bJ 86)):=tO hb (fun k hk _=>hk);have Hres:=bK hres;have Haw:=bK haw;have HOK:=bK hok;have Hg:=bK hg;have Ho:=bK ho;obtain⟨pr,xz⟩: ∃p,p=V.proto:=⟨_,D⟩;have Hpr:=bK xz;obtain⟨od,hod⟩: ∃p,p=V.it.odd:=⟨_,D⟩;have Hod:=bK hod;have s5:_:=bL (i:=5) (v:=aG od) hs (by rw[hod];rfl);have s1:_:=bL (i:=1) (v:=O Y (pr:Int)) hs (by rw[xz];rfl)
 have hrow:((w.alloc (aI (rZ V a k).toArray 104)).alloc (aI bJ 86)).rangeAt w.heap.size 4 (jR V.it a):=jT hs 4 (fun j v hv=>by
  rw[dO];have hj:j<(jR V.it a).length:=(List.getElem?_eq_some_iff.1 hv).1;show((([O Y (V.do_:Int),O Y (V.proto:Int),O Y (V.size:Int),O Y (V.why:Int)]:List aT)++jR V.it a)++ [O Y (k:Int)])[4+j]?=aE v;rw[eX (by simp;omega),dG (by simp),show 4+j-([O Y (V.do_:Int),O Y (V.proto:Int),O Y (V.size:Int),O Y (V.why:Int)]:List aT).length=j by simp]
  exact hv)
 have Hrow:=bK hrow;have Hgc:=bK OG;rw[←xz] at hp;clear hs hres hb hg ho hok hrow xz hod haw hc OG;have h4:pr=0∨pr=1∨pr=2∨pr=3:=by omega
 rcases od with _|_<;>rcases h4 with rfl|rfl|rfl|rfl
 ·have hle:=Hg.out 0;have c0:=bL (i:=1) (v:=O Y (C.g 0:Int)) Aq D;have f0:=bZ (i:=1) Aq;have hw:IntKind.i64.wrap ((C.g 0:Int)+1)=((C.g 0+1:Nat):Int):=by rw[fA];omega
  have kM:_:=cN (i:=1) Aq (O Y ((C.g 0+1:Nat):Int));have haw:=Haw.out.trans (gO (w:=(w.alloc (aI (rZ V a k).toArray 104)).alloc (aI bJ 86)) gc 1 (O Y ((C.g 0+1:Nat):Int)));have hne:w.heap.size≠gc:=by have:=Hgc.out;omega
  have hr7:=(cY (fun k=>k=gc) _).set (p:=⟨gc,1,J⟩) (O Y ((C.g 0+1:Nat):Int)) D|>.keep Hres.out (by have:=Hgc.out;omega);have hrw:(((w.alloc (aI (rZ V a k).toArray 104)).alloc (aI bJ 86)).setCell ⟨gc,1,J⟩ (O Y ((C.g 0+1:Nat):Int))).rangeAt w.heap.size 4 (jR V.it a):=fun j v hv=>by have h1:=Hrow.out j v hv;unfold World.cell? at h1 ⊢;rw[(gO (w:=(w.alloc (aI (rZ V a k).toArray 104)).alloc (aI bJ 86)) gc 1 (O Y ((C.g 0+1:Nat):Int))).block w.heap.size (by simp;omega) hne];exact h1
  have HY:=bK (bO kM (bO haw (bO hr7 hrw)));clear kM haw hr7 hrw;go_enter rB,pI;go_wp2_with(with_reducible refine sG [86] ?_);obtain⟨kM,haw,hr7,hrw⟩:=HY.out;refine eL (jP D _ _ D w.heap.size 4 D (jR V.it a) _ hrw eC D (by rw[HOK.out.len];kernel_rfl) ?_);go_wp2_with(with_reducible refine sG [86] ?_);refine eL (bQ D _ _ _ D (w.heap.size+1) (jR V.it a).toArray D D _ _ hr7 (kU _ HOK.out) (Ab _ HOK.out) (HOK.out.one _).all ?_);have kK:=bW _ _ _ (jR V.it a).toArray _ _ hr7;have ha9:=dZ (w:=((w.alloc (aI (rZ V a k).toArray 104)).alloc (aI bJ 86)).setCell ⟨gc,1,J⟩ (O Y ((C.g 0+1:Nat):Int))) (w.heap.size+1) (jR V.it a).toArray;have Xi:=ha9.keep kM (by have:=Hgc.out;omega);have hA9:Aw (fun k=>k=gc) w _:=⟨ha9.os.trans haw.os,ha9.tape.trans haw.tape,ha9.output.trans haw.output,bU haw.size ha9.size,fun j hj hu=>(ha9.block j (cI hj haw.size) (by omega)).trans (haw.block j hj hu)⟩;simp only[Act.put];repeat go_step
  exact bR (dK D _ _ (w.heap.size+1) _ _ _ _ D kK eC D (kU _ HOK.out)) D ⟨D,by unfold rX;rw[←Hod.out,←Hpr.out];exact Xi,hA9⟩
 ·have hle:=Hg.out 1;have c0:=bL (i:=2) (v:=O Y (C.g 1:Int)) Aq D;have f0:=bZ (i:=2) Aq;have hw:IntKind.i64.wrap ((C.g 1:Int)+1)=((C.g 1+1:Nat):Int):=by rw[fA];omega
  have kM:_:=cN (i:=2) Aq (O Y ((C.g 1+1:Nat):Int));have haw:=Haw.out.trans (gO (w:=(w.alloc (aI (rZ V a k).toArray 104)).alloc (aI bJ 86)) gc 2 (O Y ((C.g 1+1:Nat):Int)));have hne:w.heap.size≠gc:=by have:=Hgc.out;omega
  have hr7:=(cY (fun k=>k=gc) _).set (p:=⟨gc,2,J⟩) (O Y ((C.g 1+1:Nat):Int)) D|>.keep Hres.out (by have:=Hgc.out;omega);have hrw:(((w.alloc (aI (rZ V a k).toArray 104)).alloc (aI bJ 86)).setCell ⟨gc,2,J⟩ (O Y ((C.g 1+1:Nat):Int))).rangeAt w.heap.size 4 (jR V.it a):=fun j v hv=>by have h1:=Hrow.out j v hv;unfold World.cell? at h1 ⊢;rw[(gO (w:=(w.alloc (aI (rZ V a k).toArray 104)).alloc (aI bJ 86)) gc 2 (O Y ((C.g 1+1:Nat):Int))).block w.heap.size (by simp;omega) hne];exact h1
  have HY:=bK (bO kM (bO haw (bO hr7 hrw)));clear kM haw hr7 hrw;go_enter rB,pI;go_wp2_with(with_reducible refine sG [86] ?_);obtain⟨kM,haw,hr7,hrw⟩:=HY.out;refine eL (jP D _ _ D w.heap.size 4 D (jR V.it a) _ hrw eC D (by rw[HOK.out.len];kernel_rfl) ?_);go_wp2_with(with_reducible refine sG [86] ?_);refine eL (bQ D _ _ _ D (w.heap.size+1) (jR V.it a).toArray D D _ _ hr7 (kU _ HOK.out) (Ab _ HOK.out) (HOK.out.one _).all ?_);have kK:=bW _ _ _ (jR V.it a).toArray _ _ hr7;have ha9:=dZ (w:=((w.alloc (aI (rZ V a k).toArray 104)).alloc (aI bJ 86)).setCell ⟨gc,2,J⟩ (O Y ((C.g 1+1:Nat):Int))) (w.heap.size+1) (jR V.it a).toArray;have Xi:=ha9.keep kM (by have:=Hgc.out;omega);have hA9:Aw (fun k=>k=gc) w _:=⟨ha9.os.trans haw.os,ha9.tape.trans haw.tape,ha9.output.trans haw.output,bU haw.size ha9.size,fun j hj hu=>(ha9.block j (cI hj haw.size) (by omega)).trans (haw.block j hj hu)⟩;simp only[Act.put];repeat go_step
  exact bR (dK D _ _ (w.heap.size+1) _ _ _ _ D kK eC D (kU _ HOK.out)) D ⟨D,by unfold rX;rw[←Hod.out,←Hpr.out];exact Xi,hA9⟩
 ·have hle:=Hg.out 2;have c0:=bL (i:=3) (v:=O Y (C.g 2:Int)) Aq D;have f0:=bZ (i:=3) Aq;have hw:IntKind.i64.wrap ((C.g 2:Int)+1)=((C.g 2+1:Nat):Int):=by rw[fA];omega
  have kM:_:=cN (i:=3) Aq (O Y ((C.g 2+1:Nat):Int));have haw:=Haw.out.trans (gO (w:=(w.alloc (aI (rZ V a k).toArray 104)).alloc (aI bJ 86)) gc 3 (O Y ((C.g 2+1:Nat):Int)));have hne:w.heap.size≠gc:=by have:=Hgc.out;omega
  have hr7:=(cY (fun k=>k=gc) _).set (p:=⟨gc,3,J⟩) (O Y ((C.g 2+1:Nat):Int)) D|>.keep Hres.out (by have:=Hgc.out;omega);have hrw:(((w.alloc (aI (rZ V a k).toArray 104)).alloc (aI bJ 86)).setCell ⟨gc,3,J⟩ (O Y ((C.g 2+1:Nat):Int))).rangeAt w.heap.size 4 (jR V.it a):=fun j v hv=>by have h1:=Hrow.out j v hv;unfold World.cell? at h1 ⊢;rw[(gO (w:=(w.alloc (aI (rZ V a k).toArray 104)).alloc (aI bJ 86)) gc 3 (O Y ((C.g 2+1:Nat):Int))).block w.heap.size (by simp;omega) hne];exact h1
  have HY:=bK (bO kM (bO haw (bO hr7 hrw)));clear kM haw hr7 hrw;go_enter rB,pI;go_wp2_with(with_reducible refine sG [86] ?_);obtain⟨kM,haw,hr7,hrw⟩:=HY.out;refine eL (jP D _ _ D w.heap.size 4 D (jR V.it a) _ hrw eC D (by rw[HOK.out.len];kernel_rfl) ?_);go_wp2_with(with_reducible refine sG [86] ?_);refine eL (bQ D _ _ _ D (w.heap.size+1) (jR V.it a).toArray D D _ _ hr7 (kU _ HOK.out) (Ab _ HOK.out) (HOK.out.one _).all ?_);have kK:=bW _ _ _ (jR V.it a).toArray _ _ hr7;have ha9:=dZ (w:=((w.alloc (aI (rZ V a k).toArray 104)).alloc (aI bJ 86)).setCell ⟨gc,3,J⟩ (O Y ((C.g 2+1:Nat):Int))) (w.heap.size+1) (jR V.it a).toArray;have Xi:=ha9.keep kM (by have:=Hgc.out;omega);have hA9:Aw (fun k=>k=gc) w _:=⟨ha9.os.trans haw.os,ha9.tape.trans haw.tape,ha9.output.trans haw.output,bU haw.size ha9.size,fun j hj hu=>(ha9.block j (cI hj haw.size) (by omega)).trans (haw.block j hj hu)⟩;simp only[Act.put];repeat go_step
  exact bR (dK D _ _ (w.heap.size+1) _ _ _ _ D kK eC D (kU _ HOK.out)) D ⟨D,by unfold rX;rw[←Hod.out,←Hpr.out];exact Xi,hA9⟩
 ·have hle:=Hg.out 3;have c0:=bL (i:=4) (v:=O Y (C.g 3:Int)) Aq D;have f0:=bZ (i:=4) Aq;have hw:IntKind.i64.wrap ((C.g 3:Int)+1)=((C.g 3+1:Nat):Int):=by rw[fA];omega
  have kM:_:=cN (i:=4) Aq (O Y ((C.g 3+1:Nat):Int));have haw:=Haw.out.trans (gO (w:=(w.alloc (aI (rZ V a k).toArray 104)).alloc (aI bJ 86)) gc 4 (O Y ((C.g 3+1:Nat):Int)));have hne:w.heap.size≠gc:=by have:=Hgc.out;omega
  have hr7:=(cY (fun k=>k=gc) _).set (p:=⟨gc,4,J⟩) (O Y ((C.g 3+1:Nat):Int)) D|>.keep Hres.out (by have:=Hgc.out;omega);have hrw:(((w.alloc (aI (rZ V a k).toArray 104)).alloc (aI bJ 86)).setCell ⟨gc,4,J⟩ (O Y ((C.g 3+1:Nat):Int))).rangeAt w.heap.size 4 (jR V.it a):=fun j v hv=>by have h1:=Hrow.out j v hv;unfold World.cell? at h1 ⊢;rw[(gO (w:=(w.alloc (aI (rZ V a k).toArray 104)).alloc (aI bJ 86)) gc 4 (O Y ((C.g 3+1:Nat):Int))).block w.heap.size (by simp;omega) hne];exact h1
  have HY:=bK (bO kM (bO haw (bO hr7 hrw)));clear kM haw hr7 hrw;go_enter rB,pI;go_wp2_with(with_reducible refine sG [86] ?_);obtain⟨kM,haw,hr7,hrw⟩:=HY.out;refine eL (jP D _ _ D w.heap.size 4 D (jR V.it a) _ hrw eC D (by rw[HOK.out.len];kernel_rfl) ?_);go_wp2_with(with_reducible refine sG [86] ?_);refine eL (bQ D _ _ _ D (w.heap.size+1) (jR V.it a).toArray D D _ _ hr7 (kU _ HOK.out) (Ab _ HOK.out) (HOK.out.one _).all ?_);have kK:=bW _ _ _ (jR V.it a).toArray _ _ hr7;have ha9:=dZ (w:=((w.alloc (aI (rZ V a k).toArray 104)).alloc (aI bJ 86)).setCell ⟨gc,4,J⟩ (O Y ((C.g 3+1:Nat):Int))) (w.heap.size+1) (jR V.it a).toArray;have Xi:=ha9.keep kM (by have:=Hgc.out;omega);have hA9:Aw (fun k=>k=gc) w _:=⟨ha9.os.trans haw.os,ha9.tape.trans haw.tape,ha9.output.trans haw.output,bU haw.size ha9.size,fun j hj hu=>(ha9.block j (cI hj haw.size) (by omega)).trans (haw.block j hj hu)⟩;simp only[Act.put];repeat go_step
  exact bR (dK D _ _ (w.heap.size+1) _ _ _ _ D kK eC D (kU _ HOK.out)) D ⟨D,by unfold rX;rw[←Hod.out,←Hpr.out];exact Xi,hA9⟩
 ·have hle:=Ho.out 0;have c0:=bL (i:=5) (v:=O Y (C.o 0:Int)) Aq D;have f0:=bZ (i:=5) Aq;have hw:IntKind.i64.wrap ((C.o 0:Int)+1)=((C.o 0+1:Nat):Int):=by rw[fA];omega
  have kM:_:=cN (i:=5) Aq (O Y ((C.o 0+1:Nat):Int));have haw:=Haw.out.trans (gO (w:=(w.alloc (aI (rZ V a k).toArray 104)).alloc (aI bJ 86)) gc 5 (O Y ((C.o 0+1:Nat):Int)));have hne:w.heap.size≠gc:=by have:=Hgc.out;omega
  have hr7:=(cY (fun k=>k=gc) _).set (p:=⟨gc,5,J⟩) (O Y ((C.o 0+1:Nat):Int)) D|>.keep Hres.out (by have:=Hgc.out;omega);have hrw:(((w.alloc (aI (rZ V a k).toArray 104)).alloc (aI bJ 86)).setCell ⟨gc,5,J⟩ (O Y ((C.o 0+1:Nat):Int))).rangeAt w.heap.size 4 (jR V.it a):=fun j v hv=>by have h1:=Hrow.out j v hv;unfold World.cell? at h1 ⊢;rw[(gO (w:=(w.alloc (aI (rZ V a k).toArray 104)).alloc (aI bJ 86)) gc 5 (O Y ((C.o 0+1:Nat):Int))).block w.heap.size (by simp;omega) hne];exact h1
  have HY:=bK (bO kM (bO haw (bO hr7 hrw)));clear kM haw hr7 hrw;go_enter rB,pI;go_wp2_with(with_reducible refine sG [86] ?_);obtain⟨kM,haw,hr7,hrw⟩:=HY.out;refine eL (jP D _ _ D w.heap.size 4 D (jR V.it a) _ hrw eC D (by rw[HOK.out.len];kernel_rfl) ?_);go_wp2_with(with_reducible refine sG [86] ?_);refine eL (bQ D _ _ _ D (w.heap.size+1) (jR V.it a).toArray D D _ _ hr7 (kU _ HOK.out) (Ab _ HOK.out) (HOK.out.one _).all ?_);have kK:=bW _ _ _ (jR V.it a).toArray _ _ hr7;have ha9:=dZ (w:=((w.alloc (aI (rZ V a k).toArray 104)).alloc (aI bJ 86)).setCell ⟨gc,5,J⟩ (O Y ((C.o 0+1:Nat):Int))) (w.heap.size+1) (jR V.it a).toArray;have Xi:=ha9.keep kM (by have:=Hgc.out;omega);have hA9:Aw (fun k=>k=gc) w _:=⟨ha9.os.trans haw.os,ha9.tape.trans haw.tape,ha9.output.trans haw.output,bU haw.size ha9.size,fun j hj hu=>(ha9.block j (cI hj haw.size) (by omega)).trans (haw.block j hj hu)⟩;simp only[Act.put];repeat go_step
  exact bR (dK D _ _ (w.heap.size+1) _ _ _ _ D kK eC D (kU _ HOK.out)) D ⟨D,by unfold rX;rw[←Hod.out,←Hpr.out];exact Xi,hA9⟩
 ·have hle:=Ho.out 1;have c0:=bL (i:=6) (v:=O Y (C.o 1:Int)) Aq D;have f0:=bZ (i:=6) Aq;have hw:IntKind.i64.wrap ((C.o 1:Int)+1)=((C.o 1+1:Nat):Int):=by rw[fA];omega
  have kM:_:=cN (i:=6) Aq (O Y ((C.o 1+1:Nat):Int));have haw:=Haw.out.trans (gO (w:=(w.alloc (aI (rZ V a k).toArray 104)).alloc (aI bJ 86)) gc 6 (O Y ((C.o 1+1:Nat):Int)));have hne:w.heap.size≠gc:=by have:=Hgc.out;omega
  have hr7:=(cY (fun k=>k=gc) _).set (p:=⟨gc,6,J⟩) (O Y ((C.o 1+1:Nat):Int)) D|>.keep Hres.out (by have:=Hgc.out;omega);have hrw:(((w.alloc (aI (rZ V a k).toArray 104)).alloc (aI bJ 86)).setCell ⟨gc,6,J⟩ (O Y ((C.o 1+1:Nat):Int))).rangeAt w.heap.size 4 (jR V.it a):=fun j v hv=>by have h1:=Hrow.out j v hv;unfold World.cell? at h1 ⊢;rw[(gO (w:=(w.alloc (aI (rZ V a k).toArray 104)).alloc (aI bJ 86)) gc 6 (O Y ((C.o 1+1:Nat):Int))).block w.heap.size (by simp;omega) hne];exact h1
  have HY:=bK (bO kM (bO haw (bO hr7 hrw)));clear kM haw hr7 hrw;go_enter rB,pI;go_wp2_with(with_reducible refine sG [86] ?_);obtain⟨kM,haw,hr7,hrw⟩:=HY.out;refine eL (jP D _ _ D w.heap.size 4 D (jR V.it a) _ hrw eC D (by rw[HOK.out.len];kernel_rfl) ?_);go_wp2_with(with_reducible refine sG [86] ?_);refine eL (bQ D _ _ _ D (w.heap.size+1) (jR V.it a).toArray D D _ _ hr7 (kU _ HOK.out) (Ab _ HOK.out) (HOK.out.one _).all ?_);have kK:=bW _ _ _ (jR V.it a).toArray _ _ hr7;have ha9:=dZ (w:=((w.alloc (aI (rZ V a k).toArray 104)).alloc (aI bJ 86)).setCell ⟨gc,6,J⟩ (O Y ((C.o 1+1:Nat):Int))) (w.heap.size+1) (jR V.it a).toArray;have Xi:=ha9.keep kM (by have:=Hgc.out;omega);have hA9:Aw (fun k=>k=gc) w _:=⟨ha9.os.trans haw.os,ha9.tape.trans haw.tape,ha9.output.trans haw.output,bU haw.size ha9.size,fun j hj hu=>(ha9.block j (cI hj haw.size) (by omega)).trans (haw.block j hj hu)⟩;simp only[Act.put];repeat go_step
  exact bR (dK D _ _ (w.heap.size+1) _ _ _ _ D kK eC D (kU _ HOK.out)) D ⟨D,by unfold rX;rw[←Hod.out,←Hpr.out];exact Xi,hA9⟩
 ·have hle:=Ho.out 2;have c0:=bL (i:=7) (v:=O Y (C.o 2:Int)) Aq D;have f0:=bZ (i:=7) Aq;have hw:IntKind.i64.wrap ((C.o 2:Int)+1)=((C.o 2+1:Nat):Int):=by rw[fA];omega
  have kM:_:=cN (i:=7) Aq (O Y ((C.o 2+1:Nat):Int));have haw:=Haw.out.trans (gO (w:=(w.alloc (aI (rZ V a k).toArray 104)).alloc (aI bJ 86)) gc 7 (O Y ((C.o 2+1:Nat):Int)));have hne:w.heap.size≠gc:=by have:=Hgc.out;omega
  have hr7:=(cY (fun k=>k=gc) _).set (p:=⟨gc,7,J⟩) (O Y ((C.o 2+1:Nat):Int)) D|>.keep Hres.out (by have:=Hgc.out;omega);have hrw:(((w.alloc (aI (rZ V a k).toArray 104)).alloc (aI bJ 86)).setCell ⟨gc,7,J⟩ (O Y ((C.o 2+1:Nat):Int))).rangeAt w.heap.size 4 (jR V.it a):=fun j v hv=>by have h1:=Hrow.out j v hv;unfold World.cell? at h1 ⊢;rw[(gO (w:=(w.alloc (aI (rZ V a k).toArray 104)).alloc (aI bJ 86)) gc 7 (O Y ((C.o 2+1:Nat):Int))).block w.heap.size (by simp;omega) hne];exact h1
  have HY:=bK (bO kM (bO haw (bO hr7 hrw)));clear kM haw hr7 hrw;go_enter rB,pI;go_wp2_with(with_reducible refine sG [86] ?_);obtain⟨kM,haw,hr7,hrw⟩:=HY.out;refine eL (jP D _ _ D w.heap.size 4 D (jR V.it a) _ hrw eC D (by rw[HOK.out.len];kernel_rfl) ?_);go_wp2_with(with_reducible refine sG [86] ?_);refine eL (bQ D _ _ _ D (w.heap.size+1) (jR V.it a).toArray D D _ _ hr7 (kU _ HOK.out) (Ab _ HOK.out) (HOK.out.one _).all ?_);have kK:=bW _ _ _ (jR V.it a).toArray _ _ hr7;have ha9:=dZ (w:=((w.alloc (aI (rZ V a k).toArray 104)).alloc (aI bJ 86)).setCell ⟨gc,7,J⟩ (O Y ((C.o 2+1:Nat):Int))) (w.heap.size+1) (jR V.it a).toArray;have Xi:=ha9.keep kM (by have:=Hgc.out;omega);have hA9:Aw (fun k=>k=gc) w _:=⟨ha9.os.trans haw.os,ha9.tape.trans haw.tape,ha9.output.trans haw.output,bU haw.size ha9.size,fun j hj hu=>(ha9.block j (cI hj haw.size) (by omega)).trans (haw.block j hj hu)⟩;simp only[Act.put];repeat go_step
  exact bR (dK D _ _ (w.heap.size+1) _ _ _ _ D kK eC D (kU _ HOK.out)) D ⟨D,by unfold rX;rw[←Hod.out,←Hpr.out];exact Xi,hA9⟩
 ·have hle:=Ho.out 3;have c0:=bL (i:=8) (v:=O Y (C.o 3:Int)) Aq D;have f0:=bZ (i:=8) Aq;have hw:IntKind.i64.wrap ((C.o 3:Int)+1)=((C.o 3+1:Nat):Int):=by rw[fA];omega
  have kM:_:=cN (i:=8) Aq (O Y ((C.o 3+1:Nat):Int));have haw:=Haw.out.trans (gO (w:=(w.alloc (aI (rZ V a k).toArray 104)).alloc (aI bJ 86)) gc 8 (O Y ((C.o 3+1:Nat):Int)));have hne:w.heap.size≠gc:=by have:=Hgc.out;omega
  have hr7:=(cY (fun k=>k=gc) _).set (p:=⟨gc,8,J⟩) (O Y ((C.o 3+1:Nat):Int)) D|>.keep Hres.out (by have:=Hgc.out;omega);have hrw:(((w.alloc (aI (rZ V a k).toArray 104)).alloc (aI bJ 86)).setCell ⟨gc,8,J⟩ (O Y ((C.o 3+1:Nat):Int))).rangeAt w.heap.size 4 (jR V.it a):=fun j v hv=>by have h1:=Hrow.out j v hv;unfold World.cell? at h1 ⊢;rw[(gO (w:=(w.alloc (aI (rZ V a k).toArray 104)).alloc (aI bJ 86)) gc 8 (O Y ((C.o 3+1:Nat):Int))).block w.heap.size (by simp;omega) hne];exact h1
  have HY:=bK (bO kM (bO haw (bO hr7 hrw)));clear kM haw hr7 hrw;go_enter rB,pI;go_wp2_with(with_reducible refine sG [86] ?_);obtain⟨kM,haw,hr7,hrw⟩:=HY.out;refine eL (jP D _ _ D w.heap.size 4 D (jR V.it a) _ hrw eC D (by rw[HOK.out.len];kernel_rfl) ?_);go_wp2_with(with_reducible refine sG [86] ?_);refine eL (bQ D _ _ _ D (w.heap.size+1) (jR V.it a).toArray D D _ _ hr7 (kU _ HOK.out) (Ab _ HOK.out) (HOK.out.one _).all ?_);have kK:=bW _ _ _ (jR V.it a).toArray _ _ hr7;have ha9:=dZ (w:=((w.alloc (aI (rZ V a k).toArray 104)).alloc (aI bJ 86)).setCell ⟨gc,8,J⟩ (O Y ((C.o 3+1:Nat):Int))) (w.heap.size+1) (jR V.it a).toArray;have Xi:=ha9.keep kM (by have:=Hgc.out;omega);have hA9:Aw (fun k=>k=gc) w _:=⟨ha9.os.trans haw.os,ha9.tape.trans haw.tape,ha9.output.trans haw.output,bU haw.size ha9.size,fun j hj hu=>(ha9.block j (cI hj haw.size) (by omega)).trans (haw.block j hj hu)⟩;simp only[Act.put];repeat go_step
  exact bR (dK D _ _ (w.heap.size+1) _ _ _ _ D kK eC D (kU _ HOK.out)) D ⟨D,by unfold rX;rw[←Hod.out,←Hpr.out];exact Xi,hA9⟩
theorem T8(V:yY)(a:yB)(k:Nat)(w:aS):aU bH 25 #[aM (rZ V a k).toArray] w fun e w'=>e=aJ (O Y (V.proto:Int))∧aV w.heap.size w w':=by
 have hs:=bS w (aI (rZ V a k).toArray 104);have hb:aV w.heap.size w (w.alloc (aI (rZ V a k).toArray 104)):=(bP _ _).alloc (bM _) _;have s1:=bL (i:=1) (v:=O Y (V.proto:Int)) hs D;clear hs;go_enter func25,ntmps25;go_wp2;go_ret;exact⟨D,hb⟩
end
end Go.Proofs.YtfoabhdppkjmbaaGreat
