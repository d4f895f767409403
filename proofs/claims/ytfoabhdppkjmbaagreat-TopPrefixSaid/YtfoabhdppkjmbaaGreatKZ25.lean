import Derived.Test.YtfoabhdppkjmbaaGreatKZ24
set_option linter.unusedSimpArgs false
set_option linter.unusedVariables false
set_option maxHeartbeats 8000000
set_option maxRecDepth 20000
namespace Go.Proofs.YtfoabhdppkjmbaaGreat
open Bool renaming false→aD,true→aF
open Go renaming Addr→aW,Calls→aU,Ending→aX,Program→aZ,TypeId→aY,Value→aT,World→aS,maxLen→bB
open Go.Ending renaming returned→aJ
open Go.IntKind renaming i64→Y
open Go.Obj renaming cells→aI
open Go.Proofs.Tryz renaming prog→bH
open Go.RowKit renaming Below→aV,intOf→bE
open Go.Value renaming agg→aM,int→O,pointer→aK,slice→aL,tuple→aN
open Option renaming none→J,some→aE
open Go.Proofs.Tryz
namespace NumLaw
end NumLaw
section
open Go.RowKit Go.Shelf NumLaw
attribute [local go_sem] Addr.add_mid
attribute [local go_sem] Oper.semAt_some
attribute [-go_sem] run_eql_struct run_neq_struct
abbrev lP:=@List.length_singleton
theorem VU{V:yY}(a:yB)(k:Nat)(h:ItOk V.it):(rZ V a k).toArray[124]?=aE (O Y (k:Int)):=by
 rw[dO];unfold rZ;rw[dG (by rw[Bh a h];exact bM _),Bh a h];rfl
theorem L7(l:List (yY × Nat))(x:yY × Nat):uO (l++ [x])=x.2:=by simp[uO]
theorem Jv(l:List (yY × Nat))(x:yY × Nat):fB (l++ [x])=if x.1.do_=2 then fB l++ [x.1.it] else fB l:=by
 rw[Fp];by_cases h:x.1.do_=2
 ·rw[bY h];simp[fB,h]
 ·rw[bX h];simp[fB,h]
theorem Iw(l:List (yY × Nat))(x:yY × Nat):kJ (l++ [x])=if x.1.do_=1 then kJ l++ [x.1.proto] else kJ l:=by
 rw[Fe];by_cases h:x.1.do_=1
 ·rw[bY h];simp[kJ,h]
 ·rw[bX h];simp[kJ,h]
theorem n8(b:List UInt8): ∀(f k:Nat),(kV f b k).length≤f
 |0,_=>bM _
 |f+1,k=>by
  rw[qU];split
  ·simp
  ·rw[dM];have:=n8 b f (k+max (wK (b.drop k)).size 1);omega
theorem CF:(Tryz.prog.info? 3).map (fun i=>(i.zero,i.size,i.bytes))=aE (aE (O Y 0),1,8):=by kernel_rfl
theorem By(b:List UInt8): ∀(f k:Nat),∀x∈kV f b k,x.1=wK (b.drop x.2)∧(k≤b.length→x.2≤b.length)
 |0,_,x,h=>by cases h
 |f+1,k,x,h=>by
  rw[qU] at h;split at h
  ·rw[List.mem_singleton.1 h];exact⟨D,fun hk=>hk⟩
  ·rename_i hz;rcases List.mem_cons.1 h with rfl|h
   ·exact⟨D,fun hk=>hk⟩
   ·obtain⟨h1,h2⟩:=By b f _ x h;refine⟨h1,fun hk=>h2 ?_⟩
    have fF:k<b.length:=by
     rcases iD k b.length with h1|h1
     ·exact h1
     ·exact absurd (O9 h1) hz
    exact Ct fF
def SN(w:aS)(pre:List (yY × Nat))(W:aS):Prop:=
 Aw (fun _=>False) w W∧W.heap[w.heap.size]?=aE (aI #[O Y 1] 3)∧W.heap[w.heap.size+1]?=aE (aI #[(.func (.func 25) #[] #[])] 109)∧W.heap[w.heap.size+3]?=aE (aI #[O Y (uO pre:Int)] 3)∧w.heap.size+5≤W.heap.size∧
 ∃(A3:Option aW) (n3 c3:Nat),W.heap[w.heap.size+2]?=aE (aI #[aL A3 n3 c3] 106)∧n3≤pre.length∧W.ownsRow (w.heap.size+7) 3 1 (aL A3 n3 c3) n3 ((kJ pre).map fun(p:Nat)=>Value.int Y (p:Int))
def FN(A:Option aW)(n c:Nat)(w:aS)(x:yY × Nat)(a:Act)(Wp W:aS):Prop:=
 w.heap.size+7≤Wp.heap.size∧∃(gS:Nat) (ra:yB),a= { tmps:= #[aL A n c,O Y 1,(.func (.func 25) #[] #[]),undef,aK (aE ⟨w.heap.size,0,J⟩),aK (aE ⟨w.heap.size+1,0,J⟩),aL J 0 0,O Y 0,aK (aE ⟨w.heap.size+2,0,J⟩),aK (aE ⟨w.heap.size+3,0,J⟩),aK (aE ⟨gS,0,J⟩),aL A n c,.func (.func 69) #[] #[aK (aE ⟨w.heap.size+4,0,J⟩)],aM (rZ x.1 ra x.2).toArray,undef,undef,undef,undef,undef,undef,undef,undef,undef,undef,undef,undef,undef,undef,undef],defers:= [] } ∧W.heap[gS]?=aE (aI (rZ x.1 ra x.2).toArray 104)∧Wp.heap.size≤gS∧ItR W W.heap.size x.1.it ra∧ItF Wp.heap.size ra∧ItOk x.1.it
theorem VX{w A1 B1:aS}{pre:List (yY × Nat)}(h:SN w pre A1)(hab:Aw (fun k=>k=w.heap.size+5∨k=w.heap.size+6) A1 B1):SN w pre B1:=by
 obtain⟨i0,i1,i2,i3,i4,A3,n3,c3,i5,i6,i7⟩:=h;exact⟨tV i0 hab (fun k hk hu=>by omega),hab.keep i1 (by omega),hab.keep i2 (by omega),hab.keep i3 (by omega),bU i4 hab.size,A3,n3,c3,hab.keep i5 (by omega),i6,iZ i7 hab (fun k hk hu=>by have:=(eU i7 hk).1;omega)⟩
def me(xs:List (yY × Nat))(w:aS)(e:aX)(w':aS):Prop:=
 ∃(A':Option aW) (n' c':Nat),e=aJ (aN #[aL A' n' c',O Y (uO xs:Int)])∧w'.ownsRow w.heap.size 3 1 (aL A' n' c') n' ((kJ xs).map fun(p:Nat)=>Value.int Y (p:Int))∧aV w.heap.size w w'
theorem SR(A:Option aW)(n c B:Nat)(b:List UInt8)(w:aS)(h:Rd w B 1 A n c (bv b))(hB:B≤w.heap.size)(hn:n≤100000):
  aU bH 24 #[aL A n c,O Y 1,(.func (.func 25) #[] #[])] w (me (kV (n+1) b 0) w):=by
 have oJ:=h.blen;have Hll:=bK oJ;clear oJ;obtain⟨w4,NB⟩: ∃w4,w4=(((w.alloc (aI #[O Y 1] 3)).alloc (aI #[(.func (.func 25) #[] #[])] 109)).alloc (aI #[aL J 0 0] 106)).alloc (aI #[O Y 0] 3):=⟨_,D⟩;obtain⟨z0,z1,z2,z3,iJ,hb4⟩:=wh w (aI #[O Y 1] 3) (aI #[(.func (.func 25) #[] #[])] 109) (aI #[aL J 0 0] 106) (aI #[O Y 0] 3);rw[←NB] at z0 z1 z2 z3 iJ hb4;have Hw4:=bK NB;clear NB;refine(rK (n:=9)).1 ?_;have Lk:Fence.wide.round=J:=D;refine lH func24 D cM ?_ Lk;simp only[ntmps24,cG,dM,hH,Nat.reduceAdd,Nat.reduceSub,gH,gG,iQ,gR,eF,dS];gi_wp2_with fail;rw[←Hw4.out,show w.heap.size+1+1+1=w.heap.size+3 from D,show w.heap.size+1+1=w.heap.size+2 from D];refine⟨cM,(callsIn_wide.2 (Lw A n c w4)).mono ?_⟩;rintro e w5 ⟨rfl,rfl⟩;have b4:=bS w4 (aI #[aL A n c] 22);have hbb:aV w4.heap.size w4 (w4.alloc (aI #[aL A n c] 22)):=(bP _ _).alloc (bM _) _;have qJ:(w4.alloc (aI #[aL A n c] 22)).heap.size=w.heap.size+5:=by rw[cL,iJ]
 replace z0:=bV z0 hbb (bT z0);replace z1:=bV z1 hbb (bT z1);replace z2:=bV z2 hbb (bT z2);replace z3:=bV z3 hbb (bT z3);have hb5:=eI hb4 hbb;rw[iJ] at b4;rw[iJ];generalize(w4.alloc (aI #[aL A n c] 22))=w5 at*;have Hs5:=bK qJ;have hr5:=h.up (hb5.mono hB);clear hbb hb4 Hw4 iJ qJ;gi_wp2_with fail;have qJ:=Hs5.out
 refine Ew D (wU func69 (by kernel_rfl) D) (L8 (w.heap.size+4) A n c (w.heap.size+7) b _ hn)
  (fun W hW iJ=>⟨hW.keep b4 (fun hk=>hk),(hr5.keepB (fun Ao a e=>by
    obtain⟨ad,e',hb',_⟩:=hr5.at_ Ao;rw[e] at e';injection e' with e';rw[e']
    exact hW.block _ (by rw[qJ];omega) (fun hk=>hk))).more (by omega),by omega⟩)
  (fun x vs Wp W hE=>by obtain⟨_,a,e,_⟩:=hE;rw[e];rfl) (F:=FN A n c w) ?hF (fun k hk=>hk.elim)
  (fun k hk=>by
   rcases hk with rfl|⟨Ao,a,e,rfl⟩
   ·rw[qJ];omega
   ·obtain⟨ad,e',hb',_⟩:=hr5.at_ Ao;rw[e] at e';injection e' with e';rw[e',qJ]
    omega)
  (SN w) (fun _ _ _=>False) ?hI ?hIx ?h0 ?assign ?body ?done ?stop
 case hF=>rintro x a Wp A1 B1 ⟨OH,gS,ra,e,hg,Kn,hr,hf,hok⟩ hd hl hab;refine⟨OH,gS,ra,e,hab.keep hg (by omega),Kn,hr.awD hab (fun k hk=>hf.off (by omega)),hf,hok⟩
 case hI=>rintro pre A1 B1 hi hab;exact VX hi (hab.mono fun k hk=>hk.elim (fun h=>h.elim) (fun hk=>by rw[qJ] at hk;omega))
 case hIx=>rintro cc pre A1 B1 hf;exact hf.elim
 case stop=>rintro cc pre W hpre hf;exact hf.elim
 case h0=>exact⟨eS hb5,z0,z1,z3,by omega,J,0,0,z2,fT _,dF _ _ _ _⟩
 case assign=>rintro ll x vs Wp W K ⟨OH,ra,rfl,hr,hf,hok⟩ hab hK;have HOK:=bK hok;have hm:=bS W (aI zeroCells104 104);have rW:aV W.heap.size W (W.alloc (aI zeroCells104 104)):=(bP _ _).alloc (bM _) _;have HK:=bK hK;have HR:=bK (bO hr hf);have hwp:=hab.size;clear hK hr hf hok hab;gi_wp2_with(with_reducible refine yL 104 ?_);refine eL (Nq (fun⟨_,_,h⟩=>h) _ (by simp) _ _ ?_);refine bQ D _ _ _ D W.heap.size (rZ x.1 ra x.2).toArray D D _ _ hm (WN _ _ HOK.out) (WK _ _ HOK.out) (JV _ _ HOK.out).all ?_;have hbs:=cB rW (bM _) (rZ x.1 ra x.2).toArray;exact HK.out _ _ (eS hbs) ⟨OH,W.heap.size,ra,D,bW _ _ _ (rZ x.1 ra x.2).toArray _ _ hm,hwp,HR.out.1.nx hbs,HR.out.2,HOK.out⟩
 case body=>
  rintro pre x a Wp W NK hab ⟨OH,gS,ra,rfl,Nb,Kn,hr,hf,hok⟩ hpre zB hdD hlL;rw[qJ] at zB hdD hlL;have Am:(pre++ [x]).length≤n+1:=bU hpre.length_le (n8 b (n+1) 0);rw[cZ,lP] at Am;have pw:=NK;obtain⟨_,_,_,_,_,Ap,np,cp,q5,q6,q7⟩:=pw;have hab':Aw (fun k=>k=w.heap.size+5∨k=w.heap.size+6) Wp W:=hab.mono fun k hk=>hk.elim (fun h=>h.elim) (fun hk=>by rw[qJ] at hk;omega);have r5:=hab'.keep q5 (by omega);have r7:=iZ q7 hab' (fun k hk hu=>by have:=(eU q7 hk).1;omega);obtain⟨i0,i1,i2,i3,i4,_,_,_,_,_,_⟩:=VX NK hab';have hown: ∀j,(Value.slice Ap np cp).ownBlock=aE j→w.heap.size+7≤j∧j<Wp.heap.size:=fun j hj=>eU q7 hj;have hWW:=hab'.size;have yN:=bT Nb;have ft:W.cell? ⟨gS,124,J⟩=aE (O Y (x.2:Int)):=bL (i:=124) Nb (VU ra x.2 hok);have f9:=bZ (i:=0) i3;have e9:=bL (i:=0) i3 D;have haw1:=(gO (w:=W) (w.heap.size+3) 0 (O Y (x.2:Int)));have t0:(W.setCell ⟨w.heap.size+3,0,J⟩ (O Y (x.2:Int))).cell? ⟨gS,0,J⟩=aE (O Y (x.1.do_:Int)):=bL (i:=0) (haw1.keep Nb (by omega)) D;have t4:=bL (i:=0) (v:=O Y 1) (haw1.keep i1 (by omega)) D;have haw2:Aw (fun k=>k=w.heap.size+3) W (W.setCell ⟨w.heap.size+3,0,J⟩ (O Y (x.2:Int))).drew:=haw1.drew;have k3:(W.setCell ⟨w.heap.size+3,0,J⟩ (O Y (x.2:Int))).drew.heap[w.heap.size+3]?=aE (aI #[O Y (x.2:Int)] 3):=cN (i:=0) i3 (O Y (x.2:Int));have fu:(W.setCell ⟨w.heap.size+3,0,J⟩ (O Y (x.2:Int))).heap[w.heap.size+3]?=aE (aI #[O Y (x.2:Int)] 3):=k3
  have HKK:=bK (show∀k,(((k=w.heap.size+4∨(0<n∧∃a,A=aE a∧a.block=k))∨Wp.heap.size≤k∧k<W.heap.size)∨k=w5.heap.size∨k=w5.heap.size+1)→¬((Value.slice Ap np cp).ownBlock=aE k∨k=w.heap.size+2∨k=w.heap.size+3) from fun k hk hu=>by
   rw[qJ] at hk;have DO:(w.heap.size+7≤k∧k<Wp.heap.size)∨k=w.heap.size+2∨k=w.heap.size+3:=hu.imp (fun hu=>hown k hu) (fun h=>h);rcases hk with(((rfl|⟨Ao,a,e,rfl⟩)|hk)|hk)
   ·omega
   ·obtain⟨ad,e',hb',_⟩:=h.at_ Ao;rw[e] at e';injection e' with e';rw[e'] at DO;omega
   ·omega
   ·omega)
  have He:=bK (show(O Y (x.2:Int):aT)=O Y (uO (pre++ [x]):Int) by rw[L7]);by_cases hd:x.1.do_=1
  case neg=>
   have Y6: ¬(x.1.do_:Int)=1:=by omega
   have Hd:=bK (show kJ (pre++ [x])=kJ pre by rw[Iw,bX hd])
   have HI:=bK (show SN w (pre++ [x]) (W.setCell ⟨w.heap.size+3,0,J⟩ (O Y (x.2:Int))) from
    ⟨tV i0 haw1 (fun k hk hu=>by omega),haw1.keep i1 (by omega),haw1.keep i2 (by omega),by rw[←He.out];exact fu,bU i4 haw1.size,Ap,np,cp,haw1.keep r5 (by omega),by rw[cZ];omega,by rw[Hd.out];exact iZ r7 haw1 (fun k hk hu=>by have:=(eU r7 hk).1;omega)⟩)
   have HAA:=bK (haw1.mono (U':=fun k=>(Value.slice Ap np cp).ownBlock=aE k∨k=w.heap.size+2∨k=w.heap.size+3) (fun k hk=> .inr (.inr hk)));clear i0 i1 i2 i3 i4 q5 q6 q7 r5 r7 haw1 haw2 k3 fu NK hr hf Nb;gi_wp2;exact⟨HAA.out.keeps fun k hk=>HKK.out k hk,HI.out⟩
  have Y6:(x.1.do_:Int)=1:=by omega
  have Hd:=bK (show kJ (pre++ [x])=kJ pre++ [x.1.proto] by rw[Iw,bY hd]);have HOK:=bK hok;have HI:=bK (bO i0 (bO i1 (bO i2 (bO i3 (bO r5 (bO r7 Nb))))));clear i0 i1 i2 i3 q5 q7 r5 r7 NK hr hf Nb fu;gi_wp2_with fail;refine Ord.regionIn_ (fun _=>True) aF [21,22,23] (by kernel_rfl) (by kernel_rfl) (by kernel_rfl) (fun⟨_,_,h⟩=>h) cM ?_;clear ft f9 e9 t0 t4;generalize(W.setCell ⟨w.heap.size+3,0,J⟩ (O Y (x.2:Int))).drew=W2 at*;obtain⟨i0,i1,i2,i3,r5,r7,Nb⟩:=HI.out;have m0:=tV i0 haw2 (fun k hk hu=>by omega);have m1:=haw2.keep i1 (by omega);have m2:=haw2.keep i2 (by omega);have m5:=haw2.keep r5 (by omega);have m7:=iZ r7 haw2 (fun k hk hu=>by have:=(eU r7 hk).1;omega);have mS:=haw2.keep Nb (by omega);have m4:=bU i4 haw2.size;have jz:W2.cell? ⟨w.heap.size+2,0,J⟩=aE (aL Ap np cp):=bL m5 D;have fw:W2.cell? ⟨w.heap.size+1,0,J⟩=aE (.func (.func 25) #[] #[]):=bL m2 D;have hrow:=tU mS;clear i0 i1 i2 i3 i4 r5 r7 Nb HI;refine eP underlying106 D jz D (by kernel_rfl) (by kernel_rfl) ?_;refine PT ?_;refine eP underlying109 D fw D (by kernel_rfl) (by kernel_rfl) ?_;refine PT ?_;refine kS (b:=gS) (o:=0) (cs:=rZ x.1 ra x.2) tD D (by rw[Jp _ _ HOK.out];kernel_rfl) D hrow (by kernel_rfl) (by kernel_rfl) ?_;refine PT ?_;clear hrow jz fw;refine Ord.X ?_;go_wp2_with fail;go_fit(T8 x.1 ra x.2 W2);rintro e W3 ⟨rfl,hb3⟩;have hA3:Aw (fun _=>False) W2 W3:=eS hb3;go_wp2_with fail;refine cC cM (fun _=>hb3) ?_;refine PT ?_;refine Ord.X ?_;go_wp2;have hbn:aV W3.heap.size W3 (W3.alloc (aI #[O Y (x.1.proto:Int)] 3)):=(bP _ _).alloc (bM _) _;have hrd:Rd (W3.alloc (aI #[O Y (x.1.proto:Int)] 3)) (W3.heap.size+1) 1 (aE ⟨W3.heap.size,0,J⟩) 1 1 [O Y (x.1.proto:Int)]:=Ee W3 3 [O Y (x.1.proto:Int)] (by simp[bB]);have hA4:Aw (fun _=>False) W2 (W3.alloc (aI #[O Y (x.1.proto:Int)] 3)):=hA3.alloc _;refine cC cM (fun _=>hbn) ?_;refine PT ?_;have hA24:=haw2.trans (hA4.mono fun k hk=>hk.elim);have p0:=tV m0 hA4 (fun k hk hu=>hu);have p1:=hA4.keep m1 (fun h=>h);have p2:=hA4.keep m2 (fun h=>h);have p3:=hA4.keep k3 (fun h=>h)
  have p5:=hA4.keep m5 (fun h=>h);have p7:=iZ m7 hA4 (fun k hk hu=>hu);have p4:=bU m4 hA4.size;clear m0 m1 m2 k3 m5 m7 mS hb3 hA3 haw2 haw1 hbn m4 hA4;obtain⟨gN,Zd⟩: ∃g,g=W3.heap.size:=⟨_,D⟩;have Ts:(W3.alloc (aI #[O Y (x.1.proto:Int)] 3)).heap.size=gN+1:=by rw[cL,Zd]
  rw[←Zd] at hrd ⊢;generalize(W3.alloc (aI #[O Y (x.1.proto:Int)] 3))=W4 at*;have HgN:=bK Ts;have hW4:w.heap.size+7≤W4.heap.size:=by have:=hA24.size;omega
  clear Zd Ts;refine Ord.X ?_;go_wp2_with(at_builtin;refine rP ?_);obtain⟨ii,hi⟩:=eW CF;refine eL (iY (base:=w.heap.size+7) (n:=np) (xs:=(kJ pre).map fun(p:Nat)=>Value.int Y (p:Int)) underlying106 hi D (by omega) p7 D hrd D (fun u hu=>by rw[List.mem_singleton.1 hu];rfl) (k:=np+1) D D (by unfold bB;omega) (by omega) (by omega) ?_);intro A7 c7 W7 sC hgr zE;have hA7:=mA hgr;have Lr: ∀k,(Value.slice Ap np cp).ownBlock=aE k→w.heap.size+7≤k:=fun k hk=>(hown k hk).1;have v0:=tV p0 hA7 (fun k hk hu=>by have:=Lr k hu;omega);have v1:=hA7.keep p1 (fun hu=>by have:=Lr _ hu;omega);have v2:=hA7.keep p2 (fun hu=>by have:=Lr _ hu;omega);have v3:=hA7.keep p3 (fun hu=>by have:=Lr _ hu;omega);have v5:=hA7.keep p5 (fun hu=>by have:=Lr _ hu;omega);have v4:=bU p4 hA7.size;have hA27:Aw (fun k=>(Value.slice Ap np cp).ownBlock=aE k∨k=w.heap.size+2∨k=w.heap.size+3) W W7:=(hA24.mono (fun k hk=> .inr (.inr hk))).trans (hA7.mono fun k hk=> .inl hk);clear p0 p1 p2 p3 p4 p5 p7 hrd hgr zE hA24 hA7 hi;go_wp2_with fail;refine cC cM (fun h=>by cases h) ?_;refine PT ?_;refine Ord.X ?_;have s1:W7.cell? ⟨w.heap.size+2,0,J⟩=aE (aL Ap np cp):=bL v5 D;have s2:=bZ (i:=0) v5;have hA8:Aw (fun k=>k=w.heap.size+2) W7 (W7.setCell ⟨w.heap.size+2,0,J⟩ (aL A7 (np+1) c7)):=(cY _ _).set _ D;have u5:=cN (i:=0) v5 (aL A7 (np+1) c7)
  have HI:=bK (show SN w (pre++ [x]) (W7.setCell ⟨w.heap.size+2,0,J⟩ (aL A7 (np+1) c7)) from
   ⟨tV v0 hA8 (fun k hk hu=>by omega),hA8.keep v1 (by omega),hA8.keep v2 (by omega),by rw[←He.out];exact hA8.keep v3 (by omega),bU v4 hA8.size,A7,np+1,c7,u5,by rw[cZ,lP];omega,by rw[Hd.out,gZ];exact iZ sC hA8 (fun k hk hu=>by have:=(eU sC hk).1;omega)⟩)
  have HAA:=bK (hA27.trans (hA8.mono fun k hk=> .inr (.inl hk)));clear v0 v1 v2 v3 v4 v5 u5 sC hA27 hA8;go_wp2;refine cC cM (fun h=>by cases h) ?_;refine PT ?_;refine cV ?_;exact⟨HAA.out.keeps fun k hk=>HKK.out k hk,HI.out⟩
 case done=>rintro W ⟨i0,i1,i2,i3,i4,A3,n3,c3,i5,i6,i7⟩ hd;have XN:=bT hd;have q4:W.cell? ⟨w.heap.size+2,0,J⟩=aE (aL A3 n3 c3):=bL i5 D;have q5:W.cell? ⟨w.heap.size+3,0,J⟩=aE (O Y (uO (kV (n+1) b 0):Int)):=bL i3 D;obtain⟨EE,NL⟩: ∃e,e=uO (kV (n+1) b 0):=⟨_,D⟩;rw[←NL] at q5;have HEE:=bK NL;have HD:=bK hd;have HI:=bK (bO i0 i7);clear i0 i1 i2 i3 i4 i5 i7 hd NL;gi_wp2_with fail;refine OrdY.region_ (fun w'=>w'.cell? ⟨w.heap.size+2,0,J⟩=aE (aL A3 n3 c3)∧w'.cell? ⟨w.heap.size+3,0,J⟩=aE (O Y (EE:Int))) aD [] (by kernel_rfl) (by kernel_rfl) ⟨q4,q5⟩ ?_;have q6:W.drew.cell? ⟨w.heap.size+2,0,J⟩=aE (aL A3 n3 c3)∧W.drew.cell? ⟨w.heap.size+3,0,J⟩=aE (O Y (EE:Int)):=⟨q4,q5⟩;have Hd:=bK (show W.drew.heap[w5.heap.size]?=aE (.deferred (aE [])) from HD.out);have Hi:=bK (bO HI.out.1.drew (show W.drew.ownsRow (w.heap.size+7) 3 1 (aL A3 n3 c3) n3 ((kJ (kV (n+1) b 0)).map fun(p:Nat)=>Value.int Y (p:Int)) from HI.out.2));clear q4 q5 HD HI;have XN:w5.heap.size<W.drew.heap.size:=XN;generalize W.drew=Wd at*;refine wP underlying106 D (fun w' hS=>hS.1) q6 D (by kernel_rfl) ?_;refine PT ?_;refine wP dB D (fun w' hS=>hS.2) q6 D (by kernel_rfl) ?_;refine PT ?_;refine OrdY.K ?_;refine OrdY.K ?_;refine OrdY.e_nil ?_;gi_wp2;have hd:=Hd.out;have hA7:Aw (fun k=>k=w5.heap.size) Wd (Wd.putObj w5.heap.size (.deferred J)):=(cY _ _).put _ D;have m0:=tV Hi.out.1 hA7 (fun k hk hu=>by omega);have m7:=iZ Hi.out.2 hA7 (fun k hk hu=>by have:=(eU Hi.out.2 hk).1;omega);refine⟨by simp,.inl ⟨_,_,D,lR hd,?_⟩⟩;refine⟨aN #[aL A3 n3 c3,O Y (EE:Int)],by simp[results,go_sem],A3,n3,c3,by rw[HEE.out],zJ m7 (by omega),⟨m0.os,m0.tape,m0.output,m0.size,fun k hk=>m0.block k hk (fun h=>h)⟩⟩
abbrev nW:=@underlying24
theorem Qm: ∃i bs,Tryz.prog.info? 86=aE i∧i.zero=aE (aM (jR nA mU).toArray)∧i.size=120∧i.bytes=bs∧bs≤4096:=by
 have h:(Tryz.prog.info? 86).map (fun i=>(i.zero,i.size,decide (i.bytes≤4096)))=aE (aE (aM (jR nA mU).toArray),120,aF):=by kernel_rfl
 cases hi:Tryz.prog.info? 86 with
 |none=>rw[hi] at h;cases h
 |some i=>
  rw[hi] at h;simp only[pR,qN,vL,iP] at h;exact⟨i,i.bytes,D,h.1,h.2.1,D,h.2.2⟩
theorem Uj{proto n e:Nat}{x:wX}(hx:x.proto=proto)(hp:proto≤3):(sA proto n e x).do_=2→(sA proto n e x).it.proto=(sA proto n e x).proto∧(sA proto n e x).proto≤3:=by
 unfold sA
 repeat' split
 ·exact fun _=>⟨D,hp⟩
 ·exact fun _=>⟨hx,hp⟩
 ·intro h;cases h
 ·intro h;cases h
theorem JD(b:List UInt8):(wK b).do_=2→(wK b).it.proto=(wK b).proto∧(wK b).proto≤3:=by
 unfold wK;split
 ·intro h;cases h
 ·repeat' split
  ·intro h;cases h
  all_goals exact Uj D (by decide)
def jZ(C:E7)(l:List wX):E7:=l.foldl (fun C x=>rX C x x.proto) C
theorem JY(C:E7)(x:wX)(q p:Nat):(rX C x q).g p≤C.g p+1∧(rX C x q).o p≤C.o p+1:=by
 unfold rX Wh;split<;>constructor<;>simp only<;>first|(split<;>omega)|omega
theorem IW: ∀(C:E7) (l:List wX) (p:Nat),(jZ C l).g p≤C.g p+l.length∧(jZ C l).o p≤C.o p+l.length
 |C,[],p=>⟨bM _,bM _⟩
 |C,x::l,p=>by have h1:=IW (rX C x x.proto) l p;have h2:=JY C x x.proto p;rw[dM];exact⟨bU h1.1 (by omega),bU h1.2 (by omega)⟩
theorem Qq(C:E7)(l:List wX)(x:wX):jZ C (l++ [x])=rX (jZ C l) x x.proto:=by simp[jZ]
def SI(gc:Nat)(C0:E7)(w:aS)(pre:List (yY × Nat))(W:aS):Prop:=
 Aw (fun k=>k=gc) w W∧W.heap[w.heap.size]?=aE (aI #[O Y 2] 3)∧W.heap[w.heap.size+1]?=aE (aI #[(.func (.func 23) #[] #[aK (aE ⟨gc,0,J⟩)])] 105)∧W.heap[w.heap.size+3]?=aE (aI #[O Y (uO pre:Int)] 3)∧w.heap.size+5≤W.heap.size∧
 ∃(A3:Option aW) (n3 c3:Nat) (G:List (wX × yB)),W.heap[w.heap.size+2]?=aE (aI #[aL A3 n3 c3] 24)∧n3≤pre.length∧W.ownsRow (w.heap.size+7) 86 120 (aL A3 n3 c3) n3 (G.map fun g=>jR g.1 g.2).flatten∧G.length=n3∧G.map Prod.fst=fB pre∧
  Hid (W.heap[gc]?=aE (aI (e7 (jZ C0 (fB pre))).toArray 27))∧
  Hid (∀g∈G,ItR W W.heap.size g.1 g.2∧ItF (w.heap.size+7) g.2∧ItOk g.1∧(∀k,(Value.slice A3 n3 c3).ownBlock=aE k→mb g.2 k))
def FI(gc:Nat)(A:Option aW)(n c:Nat)(w:aS)(x:yY × Nat)(a:Act)(Wp W:aS):Prop:=
 w.heap.size+7≤Wp.heap.size∧∃(gS:Nat) (ra:yB),a= { tmps:= #[aL A n c,O Y 2,(.func (.func 23) #[] #[aK (aE ⟨gc,0,J⟩)]),undef,aK (aE ⟨w.heap.size,0,J⟩),aK (aE ⟨w.heap.size+1,0,J⟩),aL J 0 0,O Y 0,aK (aE ⟨w.heap.size+2,0,J⟩),aK (aE ⟨w.heap.size+3,0,J⟩),aK (aE ⟨gS,0,J⟩),aL A n c,.func (.func 69) #[] #[aK (aE ⟨w.heap.size+4,0,J⟩)],aM (rZ x.1 ra x.2).toArray,undef,undef,undef,undef,undef,undef,undef,undef,undef,undef,undef,undef,undef,undef,undef],defers:= [] } ∧W.heap[gS]?=aE (aI (rZ x.1 ra x.2).toArray 104)∧Wp.heap.size≤gS∧ItR W W.heap.size x.1.it ra∧ItF Wp.heap.size ra∧ItOk x.1.it
theorem WQ{gc:Nat}{C0:E7}{w A1 B1:aS}{pre:List (yY × Nat)}(OG:gc<w.heap.size)(h:SI gc C0 w pre A1)(hab:Aw (fun k=>k=w.heap.size+5∨k=w.heap.size+6) A1 B1):SI gc C0 w pre B1:=by
 obtain⟨i0,i1,i2,i3,i4,A3,n3,c3,G,i5,i6,i7,i8,i9,i10,i11⟩:=h;refine⟨tV i0 hab (fun k hk hu=>by omega),hab.keep i1 (by omega),hab.keep i2 (by omega),hab.keep i3 (by omega),bU i4 hab.size,A3,n3,c3,G,hab.keep i5 (by omega),i6,iZ i7 hab (fun k hk hu=>by have:=(eU i7 hk).1;omega),i8,i9,bK (hab.keep i10.out (by omega)),bK (fun g hg=> ?_)⟩;obtain⟨g1,g2,g3,g4⟩:=i11.out g hg;exact⟨g1.awD hab (fun k hk=>g2.off (by omega)),g2,g3,g4⟩
def mq(gc:Nat)(C0:E7)(xs:List (yY × Nat))(w:aS)(e:aX)(w':aS):Prop:=
 ∃(A':Option aW) (n' c':Nat) (G:List (wX × yB)),e=aJ (aN #[aL A' n' c',O Y (uO xs:Int)])∧RdR w' w'.heap.size 120 A' n' c' (G.map fun g=>jR g.1 g.2)∧(∀p,A'=aE p→w.heap.size≤p.block)∧G.map Prod.fst=fB xs∧
  (∀g∈G,ItR w' w'.heap.size g.1 g.2∧ItF w.heap.size g.2∧ItOk g.1)∧w'.heap[gc]?=aE (aI (e7 (jZ C0 (fB xs))).toArray 27)∧Aw (fun k=>k=gc) w w'
theorem RX(gc:Nat)(C0:E7)(A:Option aW)(n c B:Nat)(b:List UInt8)(w:aS)(h:Rd w B 1 A n c (bv b))(hB:B≤w.heap.size)(hn:n≤100000)(XG:B≤gc)(OG:w.heap[gc]?=aE (aI (e7 C0).toArray 27))(hC:(∀p,C0.g p=0)∧∀p,C0.o p=0):
  aU bH 22 #[aL A n c,O Y 2,(.func (.func 23) #[] #[aK (aE ⟨gc,0,J⟩)])] w (mq gc C0 (kV (n+1) b 0) w):=by
 have oJ:=h.blen;have Hll:=bK oJ;clear oJ;have fx:=bT OG;obtain⟨w4,NB⟩: ∃w4,w4=(((w.alloc (aI #[O Y 2] 3)).alloc (aI #[(.func (.func 23) #[] #[aK (aE ⟨gc,0,J⟩)])] 105)).alloc (aI #[aL J 0 0] 24)).alloc (aI #[O Y 0] 3):=⟨_,D⟩;obtain⟨z0,z1,z2,z3,iJ,hb4⟩:=wh w (aI #[O Y 2] 3) (aI #[(.func (.func 23) #[] #[aK (aE ⟨gc,0,J⟩)])] 105) (aI #[aL J 0 0] 24) (aI #[O Y 0] 3);rw[←NB] at z0 z1 z2 z3 iJ hb4;have Hw4:=bK NB;clear NB;refine(rK (n:=9)).1 ?_;have Lk:Fence.wide.round=J:=D;refine lH func22 D cM ?_ Lk;simp only[ntmps22,cG,dM,hH,Nat.reduceAdd,Nat.reduceSub,gH,gG,iQ,gR,eF,dS];gi_wp2_with fail;rw[←Hw4.out,show w.heap.size+1+1+1=w.heap.size+3 from D,show w.heap.size+1+1=w.heap.size+2 from D];refine⟨cM,(callsIn_wide.2 (Lw A n c w4)).mono ?_⟩;rintro e w5 ⟨rfl,rfl⟩;have b4:=bS w4 (aI #[aL A n c] 22);have hbb:aV w4.heap.size w4 (w4.alloc (aI #[aL A n c] 22)):=(bP _ _).alloc (bM _) _;have qJ:(w4.alloc (aI #[aL A n c] 22)).heap.size=w.heap.size+5:=by rw[cL,iJ]
 replace z0:=bV z0 hbb (bT z0);replace z1:=bV z1 hbb (bT z1);replace z2:=bV z2 hbb (bT z2);replace z3:=bV z3 hbb (bT z3);have hb5:=eI hb4 hbb;rw[iJ] at b4;rw[iJ];generalize(w4.alloc (aI #[aL A n c] 22))=w5 at*;have Hs5:=bK qJ;have hr5:=h.up (hb5.mono hB);have aDg:=bV OG hb5 fx;clear hbb hb4 Hw4 iJ qJ;gi_wp2_with fail;have qJ:=Hs5.out
 refine Ew D (wU func69 (by kernel_rfl) D) (L8 (w.heap.size+4) A n c (w.heap.size+7) b _ hn)
  (fun W hW iJ=>⟨hW.keep b4 (fun hk=>hk),(hr5.keepB (fun Ao a e=>by
    obtain⟨ad,e',hb',_⟩:=hr5.at_ Ao;rw[e] at e';injection e' with e';rw[e']
    exact hW.block _ (by rw[qJ];omega) (fun hk=>hk))).more (by omega),by omega⟩)
  (fun x vs Wp W hE=>by obtain⟨_,a,e,_⟩:=hE;rw[e];rfl) (F:=FI gc A n c w) ?hF (fun k hk=>hk.elim)
  (fun k hk=>by
   rcases hk with rfl|⟨Ao,a,e,rfl⟩
   ·rw[qJ];omega
   ·obtain⟨ad,e',hb',_⟩:=hr5.at_ Ao;rw[e] at e';injection e' with e';rw[e',qJ]
    omega)
  (SI gc C0 w) (fun _ _ _=>False) ?hI ?hIx ?h0 ?assign ?body ?done ?stop
 case hF=>rintro x a Wp A1 B1 ⟨OH,gS,ra,e,hg,Kn,hr,hf,hok⟩ hd hl hab;refine⟨OH,gS,ra,e,hab.keep hg (by omega),Kn,hr.awD hab (fun k hk=>hf.off (by omega)),hf,hok⟩
 case hI=>rintro pre A1 B1 hi hab;exact WQ fx hi (hab.mono fun k hk=>hk.elim (fun h=>h.elim) (fun hk=>by rw[qJ] at hk;omega))
 case hIx=>rintro cc pre A1 B1 hf;exact hf.elim
 case stop=>rintro cc pre W hpre hf;exact hf.elim
 case h0=>exact⟨eS hb5,z0,z1,z3,by omega,J,0,0,[],z2,fT _,dF _ _ _ _,D,D,bK aDg,bK (fun g hg=>by cases hg)⟩
 case assign=>rintro ll x vs Wp W K ⟨OH,ra,rfl,hr,hf,hok⟩ hab hK;have HOK:=bK hok;have hm:=bS W (aI zeroCells104 104);have rW:aV W.heap.size W (W.alloc (aI zeroCells104 104)):=(bP _ _).alloc (bM _) _;have HK:=bK hK;have HR:=bK (bO hr hf);have hwp:=hab.size;clear hK hr hf hok hab;gi_wp2_with(with_reducible refine yL 104 ?_);refine eL (Nq (fun⟨_,_,h⟩=>h) _ (by simp) _ _ ?_);refine bQ D _ _ _ D W.heap.size (rZ x.1 ra x.2).toArray D D _ _ hm (WN _ _ HOK.out) (WK _ _ HOK.out) (JV _ _ HOK.out).all ?_;have hbs:=cB rW (bM _) (rZ x.1 ra x.2).toArray;exact HK.out _ _ (eS hbs) ⟨OH,W.heap.size,ra,D,bW _ _ _ (rZ x.1 ra x.2).toArray _ _ hm,hwp,HR.out.1.nx hbs,HR.out.2,HOK.out⟩
 case body=>
  rintro pre x a Wp W NK hab ⟨OH,gS,ra,rfl,Nb,Kn,hr,hf,hok⟩ hpre zB hdD hlL;rw[qJ] at zB hdD hlL;have Am:(pre++ [x]).length≤n+1:=bU hpre.length_le (n8 b (n+1) 0);rw[cZ,lP] at Am;have pw:=NK;obtain⟨_,_,_,_,_,Ap,np,cp,G,q5,q6,q7,q8,q9,q10,q11⟩:=pw;have hab':Aw (fun k=>k=w.heap.size+5∨k=w.heap.size+6) Wp W:=hab.mono fun k hk=>hk.elim (fun h=>h.elim) (fun hk=>by rw[qJ] at hk;omega);have r5:=hab'.keep q5 (by omega);have r7:=iZ q7 hab' (fun k hk hu=>by have:=(eU q7 hk).1;omega);obtain⟨i0,i1,i2,i3,i4,_,_,_,_,_,_,_,_,_,_,_⟩:=WQ fx NK hab';have r10:=bK (hab'.keep q10.out (by omega))
  have r11:Hid (∀g∈G,ItR W W.heap.size g.1 g.2∧ItF (w.heap.size+7) g.2∧ItOk g.1∧(∀k,(Value.slice Ap np cp).ownBlock=aE k→mb g.2 k)):=bK (fun g hg=>by
   obtain⟨g1,g2,g3,g4⟩:=q11.out g hg
   exact⟨g1.awD hab' (fun k hk=>g2.off (by omega)),g2,g3,g4⟩)
  have Hxx:=bK (By b (n+1) 0 x (hpre.subset (qC _ cP)));have hown: ∀j,(Value.slice Ap np cp).ownBlock=aE j→w.heap.size+7≤j∧j<Wp.heap.size:=fun j hj=>eU q7 hj;have hWW:=hab'.size;have yN:=bT Nb;have ft:W.cell? ⟨gS,124,J⟩=aE (O Y (x.2:Int)):=bL (i:=124) Nb (VU ra x.2 hok);have f9:=bZ (i:=0) i3;have e9:=bL (i:=0) i3 D;have haw1:=(gO (w:=W) (w.heap.size+3) 0 (O Y (x.2:Int)));have t0:(W.setCell ⟨w.heap.size+3,0,J⟩ (O Y (x.2:Int))).cell? ⟨gS,0,J⟩=aE (O Y (x.1.do_:Int)):=bL (i:=0) (haw1.keep Nb (by omega)) D;have t4:=bL (i:=0) (v:=O Y 2) (haw1.keep i1 (by omega)) D;have haw2:Aw (fun k=>k=w.heap.size+3) W (W.setCell ⟨w.heap.size+3,0,J⟩ (O Y (x.2:Int))).drew:=haw1.drew;have k3:(W.setCell ⟨w.heap.size+3,0,J⟩ (O Y (x.2:Int))).drew.heap[w.heap.size+3]?=aE (aI #[O Y (x.2:Int)] 3):=cN (i:=0) i3 (O Y (x.2:Int));have fu:(W.setCell ⟨w.heap.size+3,0,J⟩ (O Y (x.2:Int))).heap[w.heap.size+3]?=aE (aI #[O Y (x.2:Int)] 3):=k3
  have HKK:=bK (show∀k,(((k=w.heap.size+4∨(0<n∧∃a,A=aE a∧a.block=k))∨Wp.heap.size≤k∧k<W.heap.size)∨k=w5.heap.size∨k=w5.heap.size+1)→¬((Value.slice Ap np cp).ownBlock=aE k∨k=w.heap.size+2∨k=w.heap.size+3∨k=gc) from fun k hk hu=>by
   rw[qJ] at hk;have DO:(w.heap.size+7≤k∧k<Wp.heap.size)∨k=w.heap.size+2∨k=w.heap.size+3∨k=gc:=hu.imp (fun hu=>hown k hu) (fun h=>h);rcases hk with(((rfl|⟨Ao,a,e,rfl⟩)|hk)|hk)
   ·omega
   ·obtain⟨ad,e',hb',_⟩:=h.at_ Ao;rw[e] at e';injection e' with e';rw[e'] at DO;omega
   ·omega
   ·omega)
  have He:=bK (show(O Y (x.2:Int):aT)=O Y (uO (pre++ [x]):Int) by rw[L7]);by_cases hd:x.1.do_=2
  case neg=>
   have Y6: ¬(x.1.do_:Int)=2:=by omega
   have Hd:=bK (show fB (pre++ [x])=fB pre by rw[Jv,bX hd])
   have HI:=bK (show SI gc C0 w (pre++ [x]) (W.setCell ⟨w.heap.size+3,0,J⟩ (O Y (x.2:Int))) from
    ⟨tV i0 haw1 (fun k hk hu=>by omega),haw1.keep i1 (by omega),haw1.keep i2 (by omega),by rw[←He.out];exact fu,bU i4 haw1.size,Ap,np,cp,G,haw1.keep r5 (by omega),by rw[cZ];omega,iZ r7 haw1 (fun k hk hu=>by have:=(eU r7 hk).1;omega),q8,by rw[Hd.out];exact q9,bK (by rw[Hd.out];exact haw1.keep r10.out (by omega)),bK (fun g hg=>by obtain⟨g1,g2,g3,g4⟩:=r11.out g hg;exact⟨g1.awD haw1 (fun k hk=>g2.off (by omega)),g2,g3,g4⟩)⟩)
   have HAA:=bK (haw1.mono (U':=fun k=>(Value.slice Ap np cp).ownBlock=aE k∨k=w.heap.size+2∨k=w.heap.size+3∨k=gc) (fun k hk=> .inr (.inr (.inl hk))));clear i0 i1 i2 i3 i4 q5 q6 q7 r5 r7 haw1 haw2 k3 fu NK hr hf Nb;gi_wp2;exact⟨HAA.out.keeps fun k hk=>HKK.out k hk,HI.out⟩
  have Y6:(x.1.do_:Int)=2:=by omega
  have Hd:=bK (show fB (pre++ [x])=fB pre++ [x.1.it] by rw[Jv,bY hd]);have HOK:=bK hok;have HI:=bK (bO i0 (bO i1 (bO i2 (bO i3 (bO r5 (bO r7 Nb))))));have Hrn:=bK (show ItR W W.heap.size x.1.it ra∧ItF Wp.heap.size ra from⟨hr,hf⟩);have Hpx:=bK (JD (b.drop x.2) (by rw[←Hxx.out.1];exact hd));rw[←Hxx.out.1] at Hpx;have Hcl:=bK (IW C0 (fB pre));have xu:(fB pre).length≤100001:=by rw[←q9,dA];omega
  clear i0 i1 i2 i3 q5 q7 q10 q11 r5 r7 NK hr hf Nb fu;gi_wp2_with fail;refine Ord.regionIn_m [0,3] [[0,1,2,3,4,5,6],[1,2,3,0,4,5,6]] (fun _=>True) aF [21,22,23,24] (by kernel_rfl) (by kernel_rfl) (by kernel_rfl) (fun⟨_,_,h⟩=>h) cM ?_;clear ft f9 e9 t0 t4;generalize(W.setCell ⟨w.heap.size+3,0,J⟩ (O Y (x.2:Int))).drew=W2 at*;obtain⟨i0,i1,i2,i3,r5,r7,Nb⟩:=HI.out;have m0:=tV i0 haw2 (fun k hk hu=>by omega);have m1:=haw2.keep i1 (by omega);have m2:=haw2.keep i2 (by omega);have m5:=haw2.keep r5 (by omega);have m7:=iZ r7 haw2 (fun k hk hu=>by have:=(eU r7 hk).1;omega);have mS:=haw2.keep Nb (by omega);have mC:=haw2.keep r10.out (by omega);have m4:=bU i4 haw2.size;have jz:W2.cell? ⟨w.heap.size+2,0,J⟩=aE (aL Ap np cp):=bL m5 D;have fw:W2.cell? ⟨w.heap.size+1,0,J⟩=aE (.func (.func 23) #[] #[aK (aE ⟨gc,0,J⟩)]):=bL m2 D;have hrow:=tU mS;clear i0 i1 i2 i3 i4 r5 r7 Nb HI;intro L hL;simp only[fL,fY,oY] at hL;rcases hL with rfl|rfl;case' inl=>simp only[Ord.lst,lI,lV,dO,eV,jJ];refine eP nW D jz D (by kernel_rfl) (by kernel_rfl) ?_;refine PT ?_;refine eP underlying105 D fw D (by kernel_rfl) (by kernel_rfl) ?_;refine PT ?_;refine kS (b:=gS) (o:=0) (cs:=rZ x.1 ra x.2) tD D (by rw[Jp _ _ HOK.out];kernel_rfl) D hrow (by kernel_rfl) (by kernel_rfl) ?_;refine PT ?_;clear hrow jz fw;refine Ord.X ?_;go_wp2_with fail;go_fit(I6 x.1 ra x.2 gc (jZ C0 (fB pre)) W2 HOK.out Hpx.out.2 (fun p=>by have:=(Hcl.out p).1;rw[hC.1 p] at this;omega) (fun p=>by have:=(Hcl.out p).2;rw[hC.2 p] at this;omega) mC);rintro e W3 ⟨rfl,DX,hA3⟩;go_wp2_with fail;refine cC cM (fun h=>by cases h) ?_;refine PT ?_
  case' inr=>simp only[Ord.lst,lI,lV,dO,eV,jJ];refine eP underlying105 D fw D (by kernel_rfl) (by kernel_rfl) ?_;refine PT ?_;refine kS (b:=gS) (o:=0) (cs:=rZ x.1 ra x.2) tD D (by rw[Jp _ _ HOK.out];kernel_rfl) D hrow (by kernel_rfl) (by kernel_rfl) ?_;refine PT ?_;clear hrow jz fw;refine Ord.X ?_;go_wp2_with fail;go_fit(I6 x.1 ra x.2 gc (jZ C0 (fB pre)) W2 HOK.out Hpx.out.2 (fun p=>by have:=(Hcl.out p).1;rw[hC.1 p] at this;omega) (fun p=>by have:=(Hcl.out p).2;rw[hC.2 p] at this;omega) mC);rintro e W3 ⟨rfl,DX,hA3⟩;go_wp2_with fail;refine cC cM (fun h=>by cases h) ?_;refine PT ?_;refine eP nW D (show W3.cell? ⟨w.heap.size+2,0,J⟩=aE (aL Ap np cp) from bL (hA3.keep m5 (by omega)) D) D (by kernel_rfl) (by kernel_rfl) ?_;refine PT ?_
  all_goals
   obtain⟨ii,bs,As,zC,F9,uy,jr⟩:=Qm;have Hii:=bK jr;have HII:=bK (bO As (bO zC (bO F9 uy)));clear As zC F9 jr uy;have uz:(jR x.1.it ra).length=120:=HOK.out.len ra;have Hil:=bK uz;clear uz;refine Ord.X ?_;go_wp2_with(with_reducible refine Rb ?_);refine eL (Gq nW HII.out (by rw[show(Value.agg (jR nA mU).toArray).cells=(jR nA mU).toArray from D,cG,it0_okk.len]) (by omega) (by omega) Hil.out D ?_);have hbn:aV W3.heap.size W3 (W3.alloc (aI (jR x.1.it ra).toArray 86)):=(bP _ _).alloc (bM _) _;have hrd:Rd (W3.alloc (aI (jR x.1.it ra).toArray 86)) (W3.heap.size+1) 120 (aE ⟨W3.heap.size,0,J⟩) 1 1 (jR x.1.it ra):=by have:=yX (sQ (size:=120) (e:=86) W3 [jR x.1.it ra] (jR x.1.it ra).toArray (by simp) (by intro r hr;rw[List.mem_singleton.1 hr];exact Hil.out) (by simp[bB]) 1 D) (by omega);simpa using this
   have hA4:Aw (fun k=>k=gc) W2 (W3.alloc (aI (jR x.1.it ra).toArray 86)):=hA3.alloc _;have tw:=bV DX hbn (bT DX);refine eL (cC cM (fun _=>hbn) ?_);refine PT ?_;have hA24:=(haw2.mono (U':=fun k=>k=w.heap.size+3∨k=gc) (fun k hk=> .inl hk)).trans (hA4.mono fun k hk=> .inr hk);have p0:=tV m0 hA4 (fun k hk hu=>hu);have p1:=hA4.keep m1 (by omega);have p2:=hA4.keep m2 (by omega);have p3:=hA4.keep k3 (by omega);have p5:=hA4.keep m5 (by omega);have p7:=iZ m7 hA4 (fun k hk hu=>by have:=(eU m7 hk).1;omega);have p4:=bU m4 hA4.size;clear m0 m1 m2 k3 m5 m7 mS mC hA3 haw2 haw1 hbn m4 hA4 DX;obtain⟨gN,Zd⟩: ∃g,g=W3.heap.size:=⟨_,D⟩;have Ts:(W3.alloc (aI (jR x.1.it ra).toArray 86)).heap.size=gN+1:=by rw[cL,Zd]
   rw[←Zd] at hrd ⊢;generalize(W3.alloc (aI (jR x.1.it ra).toArray 86))=W4 at*;have HgN:=bK Ts;have hW4:w.heap.size+7≤W4.heap.size:=by have:=hA24.size;omega
   clear Zd Ts;refine Ord.X ?_;go_wp2_with(at_builtin;refine rP ?_);refine eL (iY (base:=w.heap.size+7) (n:=np) (xs:=(G.map fun g=>jR g.1 g.2).flatten) (k:=np+1) (ys:=((G++ [(x.1.it,ra)]).map fun g=>jR g.1 g.2).flatten) nW HII.out (by rw[show(Value.agg (jR nA mU).toArray).cells=(jR nA mU).toArray from D,cG,it0_okk.len]) (by omega) p7 D hrd D (HOK.out.one ra) D (by simp) (by unfold bB;omega) (by have:=Hii.out;have:(np+1)*bs≤100002*4096:=uI (by omega) this;omega) (by omega) ?_);intro A7 c7 W7 sC hgr zE;have hA7:=mA hgr;have Lr: ∀k,(Value.slice Ap np cp).ownBlock=aE k→w.heap.size+7≤k:=fun k hk=>(hown k hk).1;have v0:=tV p0 hA7 (fun k hk hu=>by have:=Lr k hu;omega);have v1:=hA7.keep p1 (fun hu=>by have:=Lr _ hu;omega);have v2:=hA7.keep p2 (fun hu=>by have:=Lr _ hu;omega);have v3:=hA7.keep p3 (fun hu=>by have:=Lr _ hu;omega);have v5:=hA7.keep p5 (fun hu=>by have:=Lr _ hu;omega);have vC:=hA7.keep tw (fun hu=>by have:=Lr _ hu;omega);have v4:=bU p4 hA7.size;have hA27:Aw (fun k=>(Value.slice Ap np cp).ownBlock=aE k∨k=w.heap.size+2∨k=w.heap.size+3∨k=gc) W W7:=(hA24.mono (fun k hk=> .inr (.inr hk))).trans (hA7.mono fun k hk=> .inl hk);have aKy:=hA24.size;clear p0 p1 p2 p3 p4 p5 p7 hrd hgr hA24 hA7 tw;go_wp2_with fail;refine cC cM (fun h=>by cases h) ?_;refine PT ?_;refine Ord.X ?_;have s1:W7.cell? ⟨w.heap.size+2,0,J⟩=aE (aL Ap np cp):=bL v5 D;have s2:=bZ (i:=0) v5;have hA8:Aw (fun k=>k=w.heap.size+2) W7 (W7.setCell ⟨w.heap.size+2,0,J⟩ (aL A7 (np+1) c7)):=(cY _ _).set _ D;have u5:=cN (i:=0) v5 (aL A7 (np+1) c7);have yc:=hA27.trans (hA8.mono (U':=fun k=>(Value.slice Ap np cp).ownBlock=aE k∨k=w.heap.size+2∨k=w.heap.size+3∨k=gc) fun k hk=> .inr (.inl hk))
   have HI:=bK (show SI gc C0 w (pre++ [x]) (W7.setCell ⟨w.heap.size+2,0,J⟩ (aL A7 (np+1) c7)) from
    ⟨tV v0 hA8 (fun k hk hu=>by omega),hA8.keep v1 (by omega),hA8.keep v2 (by omega),by rw[←He.out];exact hA8.keep v3 (by omega),bU v4 hA8.size,A7,np+1,c7,G++ [(x.1.it,ra)],u5,by rw[cZ,lP];omega,iZ sC hA8 (fun k hk hu=>by have:=(eU sC hk).1;omega),by rw[cZ,lP,q8],by rw[Hd.out,gZ,q9];rfl,bK (by rw[Hd.out,Qq,Hpx.out.1];exact hA8.keep vC (by omega)),bK (fun g hg=>by
     have Ll: ∀k,(Value.slice A7 (np+1) c7).ownBlock=aE k→(Value.slice Ap np cp).ownBlock=aE k∨k=W4.heap.size:=fun k hk=>by
      rcases zE with h1|h1
      ·exact .inl (h1▸hk)
      ·rw[h1] at hk;injection hk with hk;exact .inr hk.symm
     rcases List.mem_append.1 hg with hg|hg
     ·obtain⟨g1,g2,g3,g4⟩:=r11.out g hg;refine⟨g1.awD yc (fun k hk=> ?_),g2,g3,fun k hk=> ?_⟩
      ·rcases hk with hk|hk
       ·exact g4 k hk
       ·exact g2.off (by omega)
      ·rcases Ll k hk with h1|h1
       ·exact g4 k h1
       ·exact g1.offNew (by omega)
     ·rw[List.mem_singleton.1 hg];obtain⟨g1,g2⟩:=Hrn.out;refine⟨g1.awD yc (fun k hk=> ?_),g2.low OH,HOK.out,fun k hk=> ?_⟩
      ·rcases hk with hk|hk
       ·exact g2.off (hown k hk).2
       ·exact g2.off (by omega)
      ·rcases Ll k hk with h1|h1
       ·exact g2.off (hown k h1).2
       ·exact g1.offNew (by omega))⟩)
   have HAA:=bK yc;clear v0 v1 v2 v3 v4 v5 vC u5 sC hA27 hA8 zE yc;go_wp2;refine cC cM (fun h=>by cases h) ?_;refine PT ?_;refine cV ?_;exact⟨HAA.out.keeps fun k hk=>HKK.out k hk,HI.out⟩
 case done=>rintro W ⟨i0,i1,i2,i3,i4,A3,n3,c3,G,i5,i6,i7,i8,i9,i10,i11⟩ hd;have XN:=bT hd;have q4:W.cell? ⟨w.heap.size+2,0,J⟩=aE (aL A3 n3 c3):=bL i5 D;have q5:W.cell? ⟨w.heap.size+3,0,J⟩=aE (O Y (uO (kV (n+1) b 0):Int)):=bL i3 D;obtain⟨EE,NL⟩: ∃e,e=uO (kV (n+1) b 0):=⟨_,D⟩;rw[←NL] at q5;have HEE:=bK NL;have HD:=bK hd;have HI:=bK (bO i0 i7);clear i0 i1 i2 i3 i4 i5 i7 hd NL;gi_wp2_with fail;refine OrdY.region_ (fun w'=>w'.cell? ⟨w.heap.size+2,0,J⟩=aE (aL A3 n3 c3)∧w'.cell? ⟨w.heap.size+3,0,J⟩=aE (O Y (EE:Int))) aD [] (by kernel_rfl) (by kernel_rfl) ⟨q4,q5⟩ ?_;have q6:W.drew.cell? ⟨w.heap.size+2,0,J⟩=aE (aL A3 n3 c3)∧W.drew.cell? ⟨w.heap.size+3,0,J⟩=aE (O Y (EE:Int)):=⟨q4,q5⟩;have Hd:=bK (show W.drew.heap[w5.heap.size]?=aE (.deferred (aE [])) from HD.out);have Hi:=bK (bO HI.out.1.drew (bO (show W.drew.ownsRow (w.heap.size+7) 86 120 (aL A3 n3 c3) n3 (G.map fun g=>jR g.1 g.2).flatten from HI.out.2) (bO (show W.drew.heap[gc]?=aE (aI (e7 (jZ C0 (fB (kV (n+1) b 0)))).toArray 27) from i10.out) (show∀g∈G,ItR W.drew W.drew.heap.size g.1 g.2∧ItF (w.heap.size+7) g.2∧ItOk g.1 from fun g hg=>by obtain⟨g1,g2,g3,_⟩:=i11.out g hg;exact⟨⟨⟨g1.u.s,g1.u.q⟩,⟨g1.n.s.drew,g1.n.q⟩,g1.p.drew⟩,g2,g3⟩))));clear q4 q5 HD HI;have XN:w5.heap.size<W.drew.heap.size:=XN;generalize W.drew=Wd at*;refine wP nW D (fun w' hS=>hS.1) q6 D (by kernel_rfl) ?_;refine PT ?_;refine wP dB D (fun w' hS=>hS.2) q6 D (by kernel_rfl) ?_;refine PT ?_;refine OrdY.K ?_;refine OrdY.K ?_;refine OrdY.e_nil ?_;gi_wp2;have hd:=Hd.out;have hA7:Aw (fun k=>k=w5.heap.size) Wd (Wd.putObj w5.heap.size (.deferred J)):=(cY _ _).put _ D;have m0:=tV Hi.out.1 hA7 (fun k hk hu=>by omega);have m7:=iZ Hi.out.2.1 hA7 (fun k hk hu=>by have:=(eU Hi.out.2.1 hk).1;omega);refine⟨by simp,.inl ⟨_,_,D,lR hd,?_⟩⟩;refine⟨aN #[aL A3 n3 c3,O Y (EE:Int)],by simp[results,go_sem],A3,n3,c3,G,by rw[HEE.out],RdR.own m7 (by rw[dA];exact i8) (fun r hr=>by obtain⟨g,hg,rfl⟩:=List.mem_map.1 hr;exact(Hi.out.2.2.2 g hg).2.2.len g.2),fun p hp=>(by have:=(eU m7 (k:=p.block) (by rw[hp];rfl)).1;omega),i9,fun g hg=>(by obtain⟨g1,g2,g3⟩:=Hi.out.2.2.2 g hg;exact⟨g1.awD hA7 (fun k hk=>g2.off (by omega)),g2.low (by omega),g3⟩),hA7.keep Hi.out.2.2.1 (by omega),m0⟩
end
section
open Go.RowKit NumLaw
attribute [local go_sem] Addr.add_mid
attribute [-go_sem] run_eql_struct run_neq_struct
theorem Ks{P:aZ}{fn:Func}{p q r:Tmp}{ty:aY}(h:fn.results= #[.tmp p,.cell q ty,.tmp r])(tmps:Array aT)(w:aS)(g:Nat)(t:aY)(cs:Array aT)(fr:Nat × Nat)(d:TypeDesc)
  (hp:tmps.getD q undef=aK (aE ⟨g,0,J⟩)) (hg:w.heap[g]?=aE (aI cs t fr))
  (hu:P.underlying ty=aE d) (hd:(match d with| .struct _| .array _ _=>aF|_=>aD)=aF) (hi:(P.info? ty).map (·.size)=aE cs.size):
  (results fn tmps).run P w= .ok (aN #[tmps.getD p undef,.agg cs,tmps.getD r undef]) w:=by
 have yC:tmps[q]?.getD undef=aK (aE ⟨g,0,J⟩):=by simpa using hp
 simp[results,h,yC,asAddr,mL w g t ty cs fr d hg hu hd hi]
def Fw(C:E7)(p:Nat):E7:= { C with b:=Wh C.b p }
def qI(C:E7)(l:List Nat):E7:=l.foldl Fw C
theorem Ve(C:E7)(l:List Nat)(p:Nat):qI C (l++ [p])=Fw (qI C l) p:=by simp[qI]
theorem Qy: ∀(C:E7) (l:List Nat) (p:Nat),(qI C l).b p≤C.b p+l.length
 |C,[],p=>bM _
 |C,q::l,p=>by
  have h1:=Qy (Fw C q) l p;have h2:(Fw C q).b p≤C.b p+1:=by unfold Fw Wh;simp only;split<;>omega
  rw[dM];exact bU h1 (by omega)
theorem Is: ∀(C:E7) (l:List wX),(jZ C l).b=C.b
 |C,[]=>rfl
 |C,x::l=>by
  have h:(rX C x x.proto).b=C.b:=by unfold rX;split<;>rfl
  exact(Is (rX C x x.proto) l).trans h
theorem QT{proto n e:Nat}{x:wX} :(sA proto n e x).proto=proto:=by
 unfold sA
 repeat' split
 all_goals rfl
theorem cm(b:List UInt8):(wK b).proto≤3:=by
 unfold wK;split
 ·exact fT _
 ·repeat' split
  ·exact fT _
  all_goals(rw[QT];decide)
theorem KX(b:List UInt8)(f k:Nat): ∀p∈kJ (kV f b k),p≤3:=fun p hp=>by
 obtain⟨x,hx,rfl⟩:=List.mem_map.1 hp;have:=(By b f k x (List.mem_filter.1 hx).1).1;rw[this];exact cm _
theorem Sx(b:List UInt8):uO (kV (b.length+1) b 0)≤b.length:=by
 obtain⟨X,w,e,h1,_,_,h4⟩:=Fy (b.length+1) b 0 (fT _) (by omega);rw[h1];simpa [uO] using h4
theorem Ol{w A A':aS}(h:aV w.heap.size w A)(ha:Aw (fun k=>k=w.heap.size+1) A A'):aV w.heap.size w A':=
 ⟨ha.os.trans h.os,ha.tape.trans h.tape,ha.output.trans h.output,bU h.size ha.size,fun k hk=>(ha.block k (cI hk h.size) (by omega)).trans (h.block k hk)⟩
def Kv(n:Nat):E7:=⟨n,fun _=>0,fun _=>0,fun _=>0⟩
def Nr(b:List UInt8):E7:=qI (jZ (Kv b.length) (fB (gW b))) (kJ (gW b))
def oc(w:aS)(b:List UInt8)(e:aX)(w':aS):Prop:=
 ∃(A':Option aW) (n' c':Nat) (G:List (wX × yB)),e=aJ (aN #[aL A' n' c',aM (e7 (Nr b)).toArray,O Y ((b.length-uO (gW b):Nat):Int)])∧RdR w' w'.heap.size 120 A' n' c' (G.map fun g=>jR g.1 g.2)∧(∀p,A'=aE p→w.heap.size≤p.block)∧G.map Prod.fst=fB (gW b)∧
  (∀g∈G,ItR w' w'.heap.size g.1 g.2∧ItF w.heap.size g.2∧ItOk g.1)∧aV w.heap.size w w'
theorem S6(C:E7):(Tryz.prog.info? 27).map (·.size)=aE (e7 C).toArray.size:=by
 have h:(Tryz.prog.info? 27).map (·.size)=aE 13:=by kernel_rfl
 exact h
theorem Vs(C:E7):Ones (e7 C):=by
 intro v hv;simp only[e7,SK,fL,mJ,fY,oY] at hv;rcases hv with rfl|(rfl|rfl|rfl|rfl)|(rfl|rfl|rfl|rfl)|(rfl|rfl|rfl|rfl)<;>rfl
theorem Gj(A:Option aW)(n c B:Nat)(b:List UInt8)(w:aS)(h:Rd w B 1 A n c (bv b))(hB:B≤w.heap.size)(hn:n≤100000):
  aU bH 7 #[aL A n c] w (oc w b):=by
 have oJ:=h.blen;obtain⟨hres,OD,iJ,hb⟩:=yZ w (aI #[O Y 0,O Y 0,O Y 0,O Y 0,O Y 0,O Y 0,O Y 0,O Y 0,O Y 0,O Y 0,O Y 0,O Y 0,O Y 0] 27) (aI #[O Y (n:Int),O Y 0,O Y 0,O Y 0,O Y 0,O Y 0,O Y 0,O Y 0,O Y 0,O Y 0,O Y 0,O Y 0,O Y 0] 27);have va:((w.alloc (aI #[O Y 0,O Y 0,O Y 0,O Y 0,O Y 0,O Y 0,O Y 0,O Y 0,O Y 0,O Y 0,O Y 0,O Y 0,O Y 0] 27)).alloc (aI #[O Y (n:Int),O Y 0,O Y 0,O Y 0,O Y 0,O Y 0,O Y 0,O Y 0,O Y 0,O Y 0,O Y 0,O Y 0,O Y 0] 27)).heap[w.heap.size+1]?=aE (aI (e7 (Kv n)).toArray 27):=OD;have HC:=bK (RX (w.heap.size+1) (Kv n) A n c B b ((w.alloc (aI #[O Y 0,O Y 0,O Y 0,O Y 0,O Y 0,O Y 0,O Y 0,O Y 0,O Y 0,O Y 0,O Y 0,O Y 0,O Y 0] 27)).alloc (aI #[O Y (n:Int),O Y 0,O Y 0,O Y 0,O Y 0,O Y 0,O Y 0,O Y 0,O Y 0,O Y 0,O Y 0,O Y 0,O Y 0] 27)) (h.up (hb.mono hB)) (by omega) hn (by omega) va ⟨fun _=>rfl,fun _=>rfl⟩);obtain⟨xs,EG⟩: ∃xs,xs=gW b:=⟨_,D⟩;have vb:kV (n+1) b 0=xs:=by rw[EG,←oJ];rfl
 have HN:=bK (fun(w':aS) (hw:aV B w w')=>SR A n c B b w' (h.up hw) (bU hB hw.size) hn);have hle:=Sx b;have DG:=KX b (b.length+1) 0;have hln:=n8 b (b.length+1) 0;rw[show kV (b.length+1) b 0=xs by rw[EG];rfl] at hle DG hln;rw[oJ] at hle hln;rw[vb] at HC HN;obtain⟨DD,yd⟩: ∃d,d=kJ xs:=⟨_,D⟩
 have hdn:DD.length≤100001:=by
  have:(kJ xs).length≤xs.length:=by unfold kJ;rw[dA];exact List.length_filter_le _ _
  rw[yd];omega
 rw[←yd] at DG;have HDL:=bK DG;have HDD:=bK yd;obtain⟨EE,NL⟩: ∃e,e=uO xs:=⟨_,D⟩;rw[←NL] at hle;have HEE:=bK NL;have Hxs:=bK EG;have Hll:=bK oJ;have Hres:=bK hres;have Hb:=bK hb;have Hsz:=bK iJ;obtain⟨MM,hMM⟩: ∃m,m=n-EE:=⟨_,D⟩;have hw:IntKind.i64.wrap ((n:Int)-(EE:Int))=(MM:Int):=by rw[fV _ (by omega)];omega
 have HMM:=bK hMM;have Hw:=bK hw;clear h OD va hres hb iJ EG vb DG hln oJ yd NL hw hMM;go_enter func7,ntmps7;go_wp2_with fail;go_fit HC.out;rintro e w2 ⟨A',n',c',G,rfl,hG,hGF,hGi,hGr,tn,haw⟩;rw[←HEE.out];have dQ:=haw.keep Hres.out (by omega);have J4:=haw.size;have hb2:aV w.heap.size w w2:=⟨haw.os.trans Hb.out.os,haw.tape.trans Hb.out.tape,haw.output.trans Hb.out.output,bU Hb.out.size haw.size,fun k hk=>(haw.block k (cI hk Hb.out.size) (by omega)).trans (Hb.out.block k hk)⟩;have hs2:w.heap.size+2≤w2.heap.size:=by have:=Hsz.out;omega
 have HGF:Hid ((∀p,A'=aE p→w.heap.size+2≤p.block)∧∀g∈G,ItF (w.heap.size+2) g.2):=bK ⟨fun p hp=>by have:=hGF p hp;have:=Hsz.out;omega,fun g hg=>(hGr g hg).2.1.low (by have:=Hsz.out;omega)⟩;have HG:=bK (bO hG (bO hGi hGr));clear haw hG hGF hGi hGr HC;go_wp2_with fail;go_fit(HN.out w2 (hb2.mono hB));rintro e w3 ⟨A2,n2,c2,rfl,hown,hb3⟩;rw[←HDD.out] at hown;have hres3:=bV dQ hb3 (by omega);have vc:=bV tn hb3 (by omega);have vd:=eI hb2 hb3;have hw3:=hb3.size;have ve:Aw (fun k=>k=w.heap.size+1) w2 w3:=(eS (U:=fun _=>False) hb3).mono (fun k hk=>hk.elim);have HA23:=bK ve;have hnD:DD.length=n2:=by have:=(oA hown).len;simpa using this
 have HnD:=bK hnD;have tM:n2≤100001:=by omega
 have Hown:=bK hown;have vf: ∀p,(jZ (Kv n) (fB xs)).b p=0:=fun p=>by rw[Is];rfl
 have Hbal:=bK vf;have hCN:w3.heap[w.heap.size+1]?=aE (aI (e7 (qI (jZ (Kv n) (fB xs)) (DD.take 0))).toArray 27):=vc;clear tn dQ hb2 hb3 HN hown ve vc vf hnD;go_wp2_with fail;go_loopw [28] (fun i wr=> ∃k:Nat,k≤n2∧i=O Y (k:Int)∧wr.heap[w.heap.size+1]?=aE (aI (e7 (qI (jZ (Kv n) (fB xs)) (DD.take k))).toArray 27)∧Aw (fun k=>k=w.heap.size+1) w3 wr) (fun i _=>n2-(bE i).toNat);case atStart=>exact⟨0,fT _,D,hCN,cY _ _⟩
 case round=>
  clear hCN;obtain⟨k,hk,rfl,hc,ha⟩:=hrel;by_cases fF:k<n2
  ·obtain⟨p,hp⟩: ∃p,DD[k]?=aE p:=⟨_,cF (by rw[HnD.out];exact fF)⟩;have hp3:=HDL.out p (dD hp);have ht:=fD hp;have hown:=iZ Hown.out ha (fun j hj hu=>by have:=(eU Hown.out hj).1;omega);obtain⟨ad,u,rfl,hu,xp⟩:=(oA hown).one fF;obtain rfl:u=O Y (p:Int):=by rw[eN,hp] at hu;injection hu with hu;exact hu.symm
   have aDi:(qI (jZ (Kv n) (fB xs)) (DD.take k)).b p≤200000:=by
    have h1:=Qy (jZ (Kv n) (fB xs)) (DD.take k) p;rw[Hbal.out p] at h1;have:(DD.take k).length≤DD.length:=by rw[fH];omega
    omega
   obtain⟨C,hC⟩: ∃C,C=qI (jZ (Kv n) (fB xs)) (DD.take k):=⟨_,D⟩;rw[←hC] at hc aDi;have DM:qI (jZ (Kv n) (fB xs)) (DD.take (k+1))=Fw C p:=by rw[ht,Ve,hC]
   have HC2:=bK DM;have Ha:=bK ha;clear hp ht hown hu hC DM ha;have h4:p=0∨p=1∨p=2∨p=3:=by omega
   rcases h4 with rfl|rfl|rfl|rfl
   ·have c0:=bL (i:=9) (v:=O Y (C.b 0:Int)) hc D;have f0:=bZ (i:=9) hc;have hw9:IntKind.i64.wrap ((C.b 0:Int)+1)=((C.b 0+1:Nat):Int):=by rw[fA];omega
    have kM:(wr.setCell ⟨w.heap.size+1,9,J⟩ (O Y ((C.b 0+1:Nat):Int))).heap[w.heap.size+1]?=aE (aI (e7 (Fw C 0)).toArray 27):=cN (i:=9) hc (O Y ((C.b 0+1:Nat):Int));have Hset:=bK kM;have haw:=bK (Ha.out.trans (gO (w:=wr) (w.heap.size+1) 9 (O Y ((C.b 0+1:Nat):Int))));clear kM hc;go_wp2;go_roundw;case rel=>exact⟨k+1,by omega,by go_num,by rw[HC2.out];exact Hset.out,haw.out⟩
    case measure=>simp[bE];omega
   ·have c0:=bL (i:=10) (v:=O Y (C.b 1:Int)) hc D;have f0:=bZ (i:=10) hc;have hw9:IntKind.i64.wrap ((C.b 1:Int)+1)=((C.b 1+1:Nat):Int):=by rw[fA];omega
    have kM:(wr.setCell ⟨w.heap.size+1,10,J⟩ (O Y ((C.b 1+1:Nat):Int))).heap[w.heap.size+1]?=aE (aI (e7 (Fw C 1)).toArray 27):=cN (i:=10) hc (O Y ((C.b 1+1:Nat):Int));have Hset:=bK kM;have haw:=bK (Ha.out.trans (gO (w:=wr) (w.heap.size+1) 10 (O Y ((C.b 1+1:Nat):Int))));clear kM hc;go_wp2;go_roundw;case rel=>exact⟨k+1,by omega,by go_num,by rw[HC2.out];exact Hset.out,haw.out⟩
    case measure=>simp[bE];omega
   ·have c0:=bL (i:=11) (v:=O Y (C.b 2:Int)) hc D;have f0:=bZ (i:=11) hc;have hw9:IntKind.i64.wrap ((C.b 2:Int)+1)=((C.b 2+1:Nat):Int):=by rw[fA];omega
    have kM:(wr.setCell ⟨w.heap.size+1,11,J⟩ (O Y ((C.b 2+1:Nat):Int))).heap[w.heap.size+1]?=aE (aI (e7 (Fw C 2)).toArray 27):=cN (i:=11) hc (O Y ((C.b 2+1:Nat):Int));have Hset:=bK kM;have haw:=bK (Ha.out.trans (gO (w:=wr) (w.heap.size+1) 11 (O Y ((C.b 2+1:Nat):Int))));clear kM hc;go_wp2;go_roundw;case rel=>exact⟨k+1,by omega,by go_num,by rw[HC2.out];exact Hset.out,haw.out⟩
    case measure=>simp[bE];omega
   ·have c0:=bL (i:=12) (v:=O Y (C.b 3:Int)) hc D;have f0:=bZ (i:=12) hc;have hw9:IntKind.i64.wrap ((C.b 3:Int)+1)=((C.b 3+1:Nat):Int):=by rw[fA];omega
    have kM:(wr.setCell ⟨w.heap.size+1,12,J⟩ (O Y ((C.b 3+1:Nat):Int))).heap[w.heap.size+1]?=aE (aI (e7 (Fw C 3)).toArray 27):=cN (i:=12) hc (O Y ((C.b 3+1:Nat):Int));have Hset:=bK kM;have haw:=bK (Ha.out.trans (gO (w:=wr) (w.heap.size+1) 12 (O Y ((C.b 3+1:Nat):Int))));clear kM hc;go_wp2;go_roundw;case rel=>exact⟨k+1,by omega,by go_num,by rw[HC2.out];exact Hset.out,haw.out⟩
    case measure=>simp[bE];omega
  ·obtain rfl:k=n2:=by omega
   have xn:DD.take k=DD:=cH (by rw[HnD.out];exact bM _);rw[xn] at hc;have fM:=ha.keep hres3 (by omega);have hA4:=HA23.out.trans ha;have hb4:=Ol vd ha
   have HG4:Hid (RdR wr wr.heap.size 120 A' n' c' (G.map fun g=>jR g.1 g.2)∧G.map Prod.fst=fB xs∧∀g∈G,ItR wr wr.heap.size g.1 g.2∧ItF (w.heap.size+2) g.2∧ItOk g.1):=bK
    ⟨Qg HG.out.1 (bM _) hA4 (fun _ p hp hu=>by have:=HGF.out.1 p hp;omega),HG.out.2.1,fun g hg=>by
     obtain⟨g1,g2,g3⟩:=HG.out.2.2 g hg;have g2:=HGF.out.2 g hg
     exact⟨g1.awD hA4 (fun k hk=>g2.off (by omega)),g2,g3⟩⟩
   clear xn ha hA4 vd hres3 Hown HG;have hw:=Hw.out;go_wp2_with fail;refine cQ (fun w'=>w'.heap[w.heap.size+1]?=aE (aI (e7 (qI (jZ (Kv n) (fB xs)) DD)).toArray 27)) aD [] (by kernel_rfl) (by kernel_rfl) hc ?_;replace hc:wr.drew.heap[w.heap.size+1]?=aE (aI (e7 (qI (jZ (Kv n) (fB xs)) DD)).toArray 27):=hc;replace fM:wr.drew.heap[w.heap.size]?=_:=fM;replace hb4:=hb4.drew
   have HG5:Hid (RdR wr.drew wr.drew.heap.size 120 A' n' c' (G.map fun g=>jR g.1 g.2)∧G.map Prod.fst=fB xs∧∀g∈G,ItR wr.drew wr.drew.heap.size g.1 g.2∧ItF (w.heap.size+2) g.2∧ItOk g.1):=bK ⟨HG4.out.1,HG4.out.2.1,fun g hg=>by
    obtain⟨g1,g2,g3⟩:=HG4.out.2.2 g hg
    exact⟨⟨⟨g1.u.s,g1.u.q⟩,⟨g1.n.s.drew,g1.n.q⟩,g1.p.drew⟩,g2,g3⟩⟩
   clear HG4;generalize wr.drew=w5 at*;refine Ord.K ?_;refine eA (b:=w.heap.size+1) (o:=0) (cs:=e7 (qI (jZ (Kv n) (fB xs)) DD)) underlying27 D (S6 _) D (by simp[e7]) (fun w' hS=>tU hS) hc (by kernel_rfl) ?_;refine PT ?_;iterate 3 refine Ord.K ?_
   refine Ord.e_p (v:=O Y (MM:Int)) D (by kernel_rfl) (fun w2=>by go_simp) ?_;refine PT ?_;refine Ord.K ?_;refine Ord.X ?_;go_wp2_with(with_reducible refine sG [27] ?_);refine eL (bQ D _ _ _ D w.heap.size (e7 (qI (jZ (Kv n) (fB xs)) DD)).toArray D D _ _ fM (S6 _) D (Vs _).all ?_);have iW:=bW _ _ _ (e7 (qI (jZ (Kv n) (fB xs)) DD)).toArray _ _ fM;have haw6:=dZ (w:=w5) w.heap.size (e7 (qI (jZ (Kv n) (fB xs)) DD)).toArray;have XK:=haw6.keep hc (by omega);have hb6:=cB hb4 (bM _) (e7 (qI (jZ (Kv n) (fB xs)) DD)).toArray
   have HG6:Hid (RdR _ _ 120 A' n' c' (G.map fun g=>jR g.1 g.2)∧∀g∈G,ItR _ _ g.1 g.2):=bK ⟨Qg HG5.out.1 (bM _) haw6 (fun _ p hp hu=>by have:=HGF.out.1 p hp;omega),fun g hg=>by
    obtain⟨g1,g2,g3⟩:=HG5.out.2.2 g hg
    exact g1.awD haw6 (fun k hk=>g2.off (by omega))⟩
   generalize(w5.setRow w.heap.size (e7 (qI (jZ (Kv n) (fB xs)) DD)).toArray)=w6 at*;refine cC XK (fun h=>by cases h) ?_;refine PT ?_;refine Ord.K ?_;refine cV ?_;clear hc XK fM haw6;go_wp2;exact bR (Ks D _ _ w.heap.size _ _ _ _ D iW underlying27 D (S6 _)) D ⟨A',n',c',G,by rw[Hll.out,←Hxs.out,←HEE.out,←HMM.out];unfold Nr;rw[Hll.out,←Hxs.out,←HDD.out];rfl,HG6.out.1,fun p hp=>(by have:=HGF.out.1 p hp;omega),by rw[HG5.out.2.1,Hxs.out],fun g hg=>⟨HG6.out.2 g hg,(HGF.out.2 g hg).low (by omega),(HG5.out.2.2 g hg).2.2⟩,hb6⟩
end
end Go.Proofs.YtfoabhdppkjmbaaGreat
