import Derived.Test.YtfoabhdppkjmbaaGreatKZ19
import Derived.Test.YtfoabhdppkjmbaaGreatKZ21
set_option linter.unusedSimpArgs false
set_option linter.unusedVariables false
set_option maxHeartbeats 6000000
set_option maxRecDepth 20000
namespace Go.Proofs.YtfoabhdppkjmbaaGreat
open Bool renaming false→aD
open Go renaming Addr→aW,Calls→aU,Ending→aX,TypeId→aY,Value→aT,World→aS,maxLen→bB
open Go.Ending renaming returned→aJ
open Go.IntKind renaming i64→Y
open Go.Obj renaming cells→aI
open Go.Proofs.Tryz renaming prog→bH,zeroCells84→bI
open Go.RowKit renaming Below→aV
open Go.Value renaming agg→aM,bool→aG,int→O,slice→aL,string→aH,tuple→aN
open Option renaming none→J,some→aE
open Go.Proofs.Tryz
namespace NumLaw
end NumLaw
section
open Go.RowKit NumLaw
attribute [local go_sem] Addr.add_mid
attribute [-go_sem] run_eql_struct run_neq_struct
theorem Z1:(Tryz.prog.info? 2).map (fun i=>(i.zero,i.size,i.bytes))=aE (aE (O Y 0),1,8):=by kernel_rfl
theorem V9(A:Option aW)(n c B:Nat)(xs:List aT)(w:aS)(h:Rd w B 1 A n c xs)(h1:Ones xs)(hB:B≤w.heap.size)(hn:n≤1000):
  aU bH 282 #[aL A n c] w fun e w'=> ∃A' c',e=aJ (aL A' n c')∧w'.ownsRow w.heap.size 2 1 (aL A' n c') n xs∧aV w.heap.size w w':=by
 obtain⟨i0,hi⟩:=eW Z1;have hq:=qD (P:=bH) w 47 2 A n c 0 0 qM
 cases A with
 |none=>
  have Ao:n=0:=by
   rcases jN n with h0|h0
   ·exact h0
   ·obtain⟨_,h,_⟩:=h.at_ h0;cases h
  subst Ao;obtain rfl:xs= []:=cU (by have:=h.len;omega);simp only[tF] at hq;clear h h1;go_enter func282,ntmps282;go_wp2;go_ret;exact⟨J,0,D,dF _ _ _ _,bP _ _⟩
 |some ad=>
  simp only[tE] at hq;go_enter func282,ntmps282;go_wp2_with(at_builtin;refine rP ?_);refine eL (vA (base:=w.heap.size) (n:=0) (xs:= []) qM hi D (by omega) (B4 _ _ _ (bM _) 1) D (h.up ((bP _ _).alloc hB _)) D h1 (fZ _) (eF _) (by unfold bB;omega) (by omega) (by simp) ?_);intro A' c' w' hown hup;have hb:aV w.heap.size w w':=hup ((bP _ _).alloc (bM _) _) (by simp) (bM _);clear hup hq h h1;go_wp2;go_ret;exact⟨A',c',D,hown,hb⟩
theorem Vp(A:Option aW)(n c B:Nat)(xs:List aT)(w:aS)(h:Rd w B 8 A n c xs)(h1:Ones xs)(hB:B≤w.heap.size)(hn:n≤1000):
  aU bH 194 #[aL A n c] w fun e w'=> ∃A' c',e=aJ (aL A' n c')∧w'.ownsRow w.heap.size 289 8 (aL A' n c') n xs∧aV w.heap.size w w':=by
 obtain⟨i0,hi⟩:=eW Ly;have hq:=qD (P:=bH) w 80 289 A n c 0 0 underlying80
 cases A with
 |none=>
  have Ao:n=0:=by
   rcases jN n with h0|h0
   ·exact h0
   ·obtain⟨_,h,_⟩:=h.at_ h0;cases h
  subst Ao;obtain rfl:xs= []:=cU (by have:=h.len;omega);simp only[tF] at hq;clear h h1;go_enter func194,ntmps194;go_wp2;go_ret;exact⟨J,0,D,dF _ _ _ _,bP _ _⟩
 |some ad=>
  simp only[tE] at hq;go_enter func194,ntmps194;go_wp2_with(at_builtin;refine rP ?_);refine eL (vA (base:=w.heap.size) (n:=0) (xs:= []) underlying80 hi D (by omega) (B4 _ _ _ (bM _) 8) D (h.up ((bP _ _).alloc hB _)) D h1 (fZ _) (eF _) (by unfold bB;omega) (by omega) (by simp) ?_);intro A' c' w' hown hup;have hb:aV w.heap.size w w':=hup ((bP _ _).alloc (bM _) _) (by simp) (bM _);clear hup hq h h1;go_wp2;go_ret;exact⟨A',c',D,hown,hb⟩
def VS(w:aS)(V:En)(word:ByteArray)(e:aX)(w':aS):Prop:=
 ∃a,e=aJ (aN #[aM (iE V a).toArray,aH word])∧NmR w' w'.heap.size V a∧(∀p,a.A=aE p∨a.A'=aE p→w.heap.size≤p.block)∧aV w.heap.size w w'
theorem QG(tk:ByteArray)(v:N5)(DG:v.dops.length=6)(js:Ones v.dops)(A:Option aW)(n c B:Nat)(w:aS)(h:Rd w B 1 A n c (v.ids.map (Value.int Y)))(hB:B≤w.heap.size)(hn:n≤1000):
  aU bH 235 #[aH tk,.iface 486 (aM (C8 v A n c).toArray)] w (VS w { nm0 with k:=3,tk:=tk,gsa:=v } ⟨#[71,83,65]⟩):=by
 have hrow:=h;obtain⟨L,Lp⟩: ∃L,L=C8 v A n c:=⟨_,D⟩;have hL:L.length=9:=by rw[Lp];simp[C8,DG]
 have h1:Ones L:=by rw[Lp];exact O1 js
 rw[←Lp];have HLE:=bK Lp;clear Lp h;obtain⟨hres,hm,iJ,hb⟩:=yZ w (aI bI 84) (aI bI 84);have hok1:NmOk { nm0 with tk:=tk } :=⟨nm0_ok.g,nm0_ok.r,nm0_ok.s,nm0_ok.v⟩;go_enter wN,vJ;go_wp2_with(with_reducible refine sG [84] ?_);rw[Eu tk];generalize((w.alloc (aI bI 84)).alloc (aI bI 84))=w1 at*;refine eL (bQ D _ _ _ D (w.heap.size+1) (iE { nm0 with tk:=tk } jH).toArray D D _ _ hm (eO _ hok1) (nL _ hok1) (hok1.one _).all ?_);have oX:NmB _ (w.heap.size+1) { nm0 with tk:=tk } jH:=bW _ _ _ (iE { nm0 with tk:=tk } jH).toArray _ _ hm;have haw:=dZ (w:=w1) (w.heap.size+1) (iE { nm0 with tk:=tk } jH).toArray;have dQ:=haw.keep hres (by omega);have hb2:=cJ hb haw (fun k hk=>by omega);have wD:(w1.setRow (w.heap.size+1) (iE { nm0 with tk:=tk } jH).toArray).heap.size=w.heap.size+2:=by rw[lZ];exact iJ
 clear hm haw hres hb iJ;generalize(w1.setRow (w.heap.size+1) (iE { nm0 with tk:=tk } jH).toArray)=w2 at*;clear w1;have hp:=bS w2 (aI #[aG aD,O Y 0,aL J 0 0,aG aD,O Y 0,aG aD,O Y 0,aG aD,O Y 0] 486);have hbx:aV w2.heap.size w2 (w2.alloc (aI #[aG aD,O Y 0,aL J 0 0,aG aD,O Y 0,aG aD,O Y 0,aG aD,O Y 0] 486)):=(bP _ _).alloc (bM _) _;have Kk:NmB _ _ _ _:=bV oX hbx (bT oX);have hres3:=bV dQ hbx (bT dQ);have hb3:=eI hb2 hbx;clear hbx oX dQ hb2;have UJ:=fun w=>YR (.agg L.toArray) w;have ep:=fun w=>YE (.agg L.toArray) w;have sl:=fun w=>bx (.agg L.toArray) w;go_wp2_with(with_reducible refine sG [486] ?_);rw[wD] at hp;generalize(w2.alloc (aI #[aG aD,O Y 0,aL J 0 0,aG aD,O Y 0,aG aD,O Y 0,aG aD,O Y 0] 486))=w3 at*;refine eL (bQ D _ _ _ D (w.heap.size+2) L.toArray D D _ _ hp (by rw[cG,hL];kernel_rfl) (by have e:L.toArray.size=9:=(by rw[cG,hL]);rw[e];rfl) h1.all ?_);have Cb:=bW _ _ _ L.toArray _ _ hp;have haw:=dZ (w:=w3) (w.heap.size+2) L.toArray;have yO:NmB _ _ _ _:=haw.keep Kk (by omega);have fM:=haw.keep hres3 (by omega);have hb4:=cJ hb3 haw (fun k hk=>by omega);clear Kk hres3 hb3 haw hp UJ ep sl wD;generalize(w3.setRow (w.heap.size+2) L.toArray)=w4 at*;clear w2;go_wp2_with fail;refine cQ (fun w'=>w'.heap[w.heap.size+2]?=aE (aI L.toArray 486)) aD [] (by kernel_rfl) (by kernel_rfl) Cb ?_;replace Cb:w4.drew.heap[w.heap.size+2]?=_:=Cb;replace yO:NmB w4.drew _ _ _:=yO;replace fM:w4.drew.heap[w.heap.size]?=_:=fM;replace hb4:=hb4.drew;generalize w4.drew=w5 at*;refine Ord.K ?_;refine eA lD D (by rw[hL];kernel_rfl) D (by intro e;rw[e] at hL;cases hL) (fun w' hS=>tU hS) Cb (by kernel_rfl) ?_;refine PT ?_;refine Ord.K ?_;have c0:=bL (i:=0) (v:=O Y 0) yO D;have f0:=bZ (i:=0) yO;have haw:=gO (w:=w5) (w.heap.size+1) 0 (O Y 3);have Cr:=Ep yO 3;have Pl:=haw.keep Cb (by omega);have iW:=haw.keep fM (by omega);have hb6:=cJ hb4 haw (fun k hk=>by omega);clear yO Cb fM hb4 haw;refine Ord.X ?_;go_wp2_with fail;refine cC Pl (fun h=>by cases h) ?_;generalize(w5.setCell ⟨w.heap.size+1,0,J⟩ (O Y 3))=w6 at*
 clear c0 f0;refine PT ?_;refine Ord.K ?_;have xU:NmOk { nm0 with k:=3,tk:=tk } :=⟨nm0_ok.g,nm0_ok.r,nm0_ok.s,nm0_ok.v⟩;have hok3:NmOk { nm0 with k:=3,tk:=tk,gsa:=v } :=⟨nm0_ok.g,nm0_ok.r,⟨DG,js⟩,nm0_ok.v⟩;refine Ord.X ?_;refine gK D _ _ _ D (w.heap.size+1) 44 L.toArray D D (NmB.there Cr xU (by rw[cG,hL];omega)) (by rw[cG,hL];kernel_rfl) h1.all ?_;have E5:Se { nm0 with k:=3,tk:=tk } jH { nm0 with k:=3,tk:=tk,gsa:=v } { jH with A:=A,n:=n,c:=c } 44 L:=by rw[HLE.out];have hL:=hL;rw[HLE.out] at hL;exact⟨[O Y 3,aH tk]++(nm0.gga++nm0.rmc),C8 nm0.gsa J 0 0,nm0.vtg++Gl nm0.gsv J 0 0,by simp[iE,jH],by simp[iE,jH],D,by rw[hL];rfl⟩
 obtain⟨Ko,haw⟩:=NmB.set Cr E5;have Ty:=haw.keep Pl (by omega);have gQ:=haw.keep iW (by omega);have hb7:=cJ hb6 haw (fun k hk=>by omega);simp only[iL];generalize w6.setCells (w.heap.size+1) 44 L=w7 at*;clear Cr haw Pl iW hb6 E5;go_wp2_with fail;refine cC Ty (fun h=>by cases h) ?_;refine PT ?_;refine cV ?_;have q2:=bL (i:=2) (v:=aL A n c) Ty (by rw[dO,HLE.out];rfl);have HCL:=bK (V9 A n c B (v.ids.map (Value.int Y)) w7 (hrow.up (hb7.mono hB)) (fun v hv=>by obtain⟨z,_,rfl⟩:=List.mem_map.1 hv;rfl) (by have:=hb7.size;omega) hn);clear Ty;go_wp2_with fail;go_fit HCL.out;rintro e w8 ⟨A2,c2,rfl,hown,hbx⟩;have so:=bT Ko;have Xd:NmB _ _ _ _:=bV Ko hbx so;have nC:=bV gQ hbx (bT gQ);have hb8:=eI hb7 hbx;have t0: ∃u,(iE { nm0 with k:=3,tk:=tk,gsa:=v } { jH with A:=A,n:=n,c:=c })[46]?=aE u:=⟨_,cF (by rw[hok3.len];omega)⟩;obtain⟨u,hu⟩:=t0;have k0:=bL (i:=46) Xd (by rw[dO];exact hu);have k1:=bZ (i:=46) Xd;have Tl:Se { nm0 with k:=3,tk:=tk,gsa:=v } { jH with A:=A,n:=n,c:=c } { nm0 with k:=3,tk:=tk,gsa:=v } { jH with A:=A2,n:=n,c:=c2 } 46 [aL A2 n c2]:=⟨[O Y 3,aH tk]++(nm0.gga++(nm0.rmc++ [aG v.auto,O Y v.fix])),[aL A n c],v.dops++(nm0.vtg++Gl nm0.gsv J 0 0),by simp[iE,jH,C8],by simp[iE,jH,C8],D,D⟩;have haw:=gO (w:=w8) (w.heap.size+1) 46 (aL A2 n c2);have MH:NmB (w8.setCell ⟨w.heap.size+1,46,J⟩ (aL A2 n c2)) (w.heap.size+1) { nm0 with k:=3,tk:=tk,gsa:=v } { jH with A:=A2,n:=n,c:=c2 } :=(NmB.set Xd Tl).1;have kK:=haw.keep nC (by omega);have hb9:=cJ hb8 haw (fun k hk=>by omega);have Ae:=B7 hown haw so;have HY:=bK (bO MH (bO kK (bO hb9 Ae)));clear Ko gQ hb7 HCL q2 hbx Xd nC hb8 hu Tl haw MH kK hb9 Ae hown hrow;go_wp2_with(with_reducible refine sG [84] ?_);obtain⟨MH,kK,hb9,Ae⟩:=HY.out;clear HY k0 k1;generalize(w8.setCell ⟨w.heap.size+1,46,J⟩ (aL A2 n c2))=w9 at*;refine eL (dI D _ _ D (w.heap.size+1) D _ _ _ _ MH dJ D (eO _ hok3) ?_);go_wp2_with(with_reducible refine sG [84] ?_);refine eL (bQ D _ _ _ D w.heap.size (iE { nm0 with k:=3,tk:=tk,gsa:=v } { jH with A:=A2,n:=n,c:=c2 }).toArray D D _ _ kK (eO _ hok3) (nL _ hok3) (hok3.one _).all ?_)
 have Xe:=bW _ _ _ (iE { nm0 with k:=3,tk:=tk,gsa:=v } { jH with A:=A2,n:=n,c:=c2 }).toArray _ _ kK;have et:=cB hb9 (bM _) (iE { nm0 with k:=3,tk:=tk,gsa:=v } { jH with A:=A2,n:=n,c:=c2 }).toArray;have Ka:=B7 Ae (dZ (w:=w9) w.heap.size (iE { nm0 with k:=3,tk:=tk,gsa:=v } { jH with A:=A2,n:=n,c:=c2 }).toArray) (by omega);have hA2: ∀p,A2=aE p→w.heap.size≤p.block:=fun p hp=>by have:=eU Ka (k:=p.block) (by rw[hp];rfl);omega
 simp only[Act.put];repeat go_step
 exact bR (cD D _ _ w.heap.size _ _ _ _ D Xe dJ D (eO _ hok3)) D ⟨{ jH with A:=A2,n:=n,c:=c2 },D,⟨oA Ka,kR _ _ _⟩,(fun p hp=>by
  rcases hp with hp|hp
  ·exact hA2 p hp
  ·cases hp),et⟩
theorem RZ(tk:ByteArray)(v:Oe)(Cp:Ones v.l.flatten)(A:Option aW)(n c B:Nat)(w:aS)(h:RdR w B 8 A n c v.l)(hB:B≤w.heap.size)(hn:n≤1000):
  aU bH 235 #[aH tk,.iface 494 (aM (Gl v A n c).toArray)] w (VS w { nm0 with k:=5,tk:=tk,gsv:=v } ⟨#[71,83,86]⟩):=by
 have hrow:=h;have HV8:=bK (bO h.1 h.2.1);obtain⟨L,Lp⟩: ∃L,L=Gl v A n c:=⟨_,D⟩;have hL:L.length=4:=by rw[Lp];rfl
 have h1:Ones L:=by rw[Lp];exact Ns
 rw[←Lp];have HLE:=bK Lp;clear Lp h;obtain⟨hres,hm,iJ,hb⟩:=yZ w (aI bI 84) (aI bI 84);have hok1:NmOk { nm0 with tk:=tk } :=⟨nm0_ok.g,nm0_ok.r,nm0_ok.s,nm0_ok.v⟩;go_enter wN,vJ;go_wp2_with(with_reducible refine sG [84] ?_);rw[Eu tk];generalize((w.alloc (aI bI 84)).alloc (aI bI 84))=w1 at*;refine eL (bQ D _ _ _ D (w.heap.size+1) (iE { nm0 with tk:=tk } jH).toArray D D _ _ hm (eO _ hok1) (nL _ hok1) (hok1.one _).all ?_);have oX:NmB _ (w.heap.size+1) { nm0 with tk:=tk } jH:=bW _ _ _ (iE { nm0 with tk:=tk } jH).toArray _ _ hm;have haw:=dZ (w:=w1) (w.heap.size+1) (iE { nm0 with tk:=tk } jH).toArray;have dQ:=haw.keep hres (by omega);have hb2:=cJ hb haw (fun k hk=>by omega);have wD:(w1.setRow (w.heap.size+1) (iE { nm0 with tk:=tk } jH).toArray).heap.size=w.heap.size+2:=by rw[lZ];exact iJ
 clear hm haw hres hb iJ;generalize(w1.setRow (w.heap.size+1) (iE { nm0 with tk:=tk } jH).toArray)=w2 at*;clear w1;have hp:=bS w2 (aI #[O Y 0,O Y 0,O Y 0,aL J 0 0] 494);have hbx:aV w2.heap.size w2 (w2.alloc (aI #[O Y 0,O Y 0,O Y 0,aL J 0 0] 494)):=(bP _ _).alloc (bM _) _;have Kk:NmB _ _ _ _:=bV oX hbx (bT oX);have hres3:=bV dQ hbx (bT dQ);have hb3:=eI hb2 hbx;clear hbx oX dQ hb2;have UJ:=fun w=>XX (.agg L.toArray) w;have ep:=fun w=>al (.agg L.toArray) w;have sl:=fun w=>bo (.agg L.toArray) w;have as4:=fun w=>ag (.agg L.toArray) w;have as5:=fun w=>YM (.agg L.toArray) w;go_wp2_with(with_reducible refine sG [494] ?_);rw[wD] at hp;generalize(w2.alloc (aI #[O Y 0,O Y 0,O Y 0,aL J 0 0] 494))=w3 at*;refine eL (bQ D _ _ _ D (w.heap.size+2) L.toArray D D _ _ hp (by rw[cG,hL];kernel_rfl) (by have e:L.toArray.size=4:=(by rw[cG,hL]);rw[e];rfl) h1.all ?_);have Cb:=bW _ _ _ L.toArray _ _ hp;have haw:=dZ (w:=w3) (w.heap.size+2) L.toArray;have yO:NmB _ _ _ _:=haw.keep Kk (by omega);have fM:=haw.keep hres3 (by omega);have hb4:=cJ hb3 haw (fun k hk=>by omega);clear Kk hres3 hb3 haw hp UJ ep sl as4 as5 wD;generalize(w3.setRow (w.heap.size+2) L.toArray)=w4 at*;clear w2;go_wp2_with fail;refine cQ (fun w'=>w'.heap[w.heap.size+2]?=aE (aI L.toArray 494)) aD [] (by kernel_rfl) (by kernel_rfl) Cb ?_;replace Cb:w4.drew.heap[w.heap.size+2]?=_:=Cb;replace yO:NmB w4.drew _ _ _:=yO;replace fM:w4.drew.heap[w.heap.size]?=_:=fM;replace hb4:=hb4.drew;generalize w4.drew=w5 at*;refine Ord.K ?_;refine eA jC D (by rw[hL];kernel_rfl) D (by intro e;rw[e] at hL;cases hL) (fun w' hS=>tU hS) Cb (by kernel_rfl) ?_;refine PT ?_;refine Ord.K ?_;have c0:=bL (i:=0) (v:=O Y 0) yO D;have f0:=bZ (i:=0) yO;have haw:=gO (w:=w5) (w.heap.size+1) 0 (O Y 5);have Cr:=Ep yO 5;have Pl:=haw.keep Cb (by omega);have iW:=haw.keep fM (by omega);have hb6:=cJ hb4 haw (fun k hk=>by omega);clear yO Cb fM hb4 haw;refine Ord.X ?_;go_wp2_with fail;refine cC Pl (fun h=>by cases h) ?_;generalize(w5.setCell ⟨w.heap.size+1,0,J⟩ (O Y 5))=w6 at*
 clear c0 f0;refine PT ?_;refine Ord.K ?_;have xU:NmOk { nm0 with k:=5,tk:=tk } :=⟨nm0_ok.g,nm0_ok.r,nm0_ok.s,nm0_ok.v⟩;have hok3:NmOk { nm0 with k:=5,tk:=tk,gsv:=v } :=⟨nm0_ok.g,nm0_ok.r,nm0_ok.s,nm0_ok.v⟩;refine Ord.X ?_;refine gK D _ _ _ D (w.heap.size+1) 61 L.toArray D D (NmB.there Cr xU (by rw[cG,hL];omega)) (by rw[cG,hL];kernel_rfl) h1.all ?_;have E5:Se { nm0 with k:=5,tk:=tk } jH { nm0 with k:=5,tk:=tk,gsv:=v } { jH with A':=A,n':=n,c':=c } 61 L:=by rw[HLE.out];have hL:=hL;rw[HLE.out] at hL;exact⟨[O Y 5,aH tk]++(nm0.gga++(nm0.rmc++(C8 nm0.gsa J 0 0++nm0.vtg))),Gl nm0.gsv J 0 0,[],by simp[iE,jH],by simp[iE,jH],D,by rw[hL];rfl⟩
 obtain⟨Ko,haw⟩:=NmB.set Cr E5;have Ty:=haw.keep Pl (by omega);have gQ:=haw.keep iW (by omega);have hb7:=cJ hb6 haw (fun k hk=>by omega);simp only[iL];generalize w6.setCells (w.heap.size+1) 61 L=w7 at*;clear Cr haw Pl iW hb6 E5;go_wp2_with fail;refine cC Ty (fun h=>by cases h) ?_;refine PT ?_;refine cV ?_;have q2:=bL (i:=3) (v:=aL A n c) Ty (by rw[dO,HLE.out];rfl);have HCL:=bK (Vp A n c B v.l.flatten w7 (yX (hrow.up (hb7.mono hB)) (by omega)) Cp (by have:=hb7.size;omega) hn);clear Ty;go_wp2_with fail;go_fit HCL.out;rintro e w8 ⟨A2,c2,rfl,hown,hbx⟩;have so:=bT Ko;have Xd:NmB _ _ _ _:=bV Ko hbx so;have nC:=bV gQ hbx (bT gQ);have hb8:=eI hb7 hbx;have t0: ∃u,(iE { nm0 with k:=5,tk:=tk,gsv:=v } { jH with A':=A,n':=n,c':=c })[64]?=aE u:=⟨_,cF (by rw[hok3.len];omega)⟩;obtain⟨u,hu⟩:=t0;have k0:=bL (i:=64) Xd (by rw[dO];exact hu);have k1:=bZ (i:=64) Xd;have Tl:Se { nm0 with k:=5,tk:=tk,gsv:=v } { jH with A':=A,n':=n,c':=c } { nm0 with k:=5,tk:=tk,gsv:=v } { jH with A':=A2,n':=n,c':=c2 } 64 [aL A2 n c2]:=⟨[O Y 5,aH tk]++(nm0.gga++(nm0.rmc++(C8 nm0.gsa J 0 0++(nm0.vtg++ [O Y v.total,O Y v.no,O Y v.seen])))),[aL A n c],[],by simp[iE,jH,Gl],by simp[iE,jH,Gl],D,D⟩;have haw:=gO (w:=w8) (w.heap.size+1) 64 (aL A2 n c2);have MH:NmB (w8.setCell ⟨w.heap.size+1,64,J⟩ (aL A2 n c2)) (w.heap.size+1) { nm0 with k:=5,tk:=tk,gsv:=v } { jH with A':=A2,n':=n,c':=c2 } :=(NmB.set Xd Tl).1;have kK:=haw.keep nC (by omega);have hb9:=cJ hb8 haw (fun k hk=>by omega);have Ae:=B7 hown haw so;have HY:=bK (bO MH (bO kK (bO hb9 Ae)));clear Ko gQ hb7 HCL q2 hbx Xd nC hb8 hu Tl haw MH kK hb9 Ae hown hrow;go_wp2_with(with_reducible refine sG [84] ?_);obtain⟨MH,kK,hb9,Ae⟩:=HY.out;clear HY k0 k1;generalize(w8.setCell ⟨w.heap.size+1,64,J⟩ (aL A2 n c2))=w9 at*;refine eL (dI D _ _ D (w.heap.size+1) D _ _ _ _ MH dJ D (eO _ hok3) ?_);go_wp2_with(with_reducible refine sG [84] ?_);refine eL (bQ D _ _ _ D w.heap.size (iE { nm0 with k:=5,tk:=tk,gsv:=v } { jH with A':=A2,n':=n,c':=c2 }).toArray D D _ _ kK (eO _ hok3) (nL _ hok3) (hok3.one _).all ?_)
 have Xe:=bW _ _ _ (iE { nm0 with k:=5,tk:=tk,gsv:=v } { jH with A':=A2,n':=n,c':=c2 }).toArray _ _ kK;have et:=cB hb9 (bM _) (iE { nm0 with k:=5,tk:=tk,gsv:=v } { jH with A':=A2,n':=n,c':=c2 }).toArray;have Ka:=B7 Ae (dZ (w:=w9) w.heap.size (iE { nm0 with k:=5,tk:=tk,gsv:=v } { jH with A':=A2,n':=n,c':=c2 }).toArray) (by omega);have hA2: ∀p,A2=aE p→w.heap.size≤p.block:=fun p hp=>by have:=eU Ka (k:=p.block) (by rw[hp];rfl);omega
 simp only[Act.put];repeat go_step
 exact bR (cD D _ _ w.heap.size _ _ _ _ D Xe dJ D (eO _ hok3)) D ⟨{ jH with A':=A2,n':=n,c':=c2 },D,⟨iH _ _ _,RdR.own Ka HV8.out.1 HV8.out.2⟩,(fun p hp=>by
  rcases hp with hp|hp
  ·cases hp
  ·exact hA2 p hp),et⟩
abbrev sJ:=@ntmps234
abbrev uD:=@func234
theorem kT(v:Jr):Ones (tR v):= .cons D (.cons D .nil)
theorem WM(st:kY):(qQ st).1.length=5∧Ones (qQ st).1:=by
 obtain⟨b,h,m,x,c,e⟩:=zT (jA st).1;have e':(qQ st).1=Jl b h m x c:=e;rw[e'];exact⟨D,.of D⟩
theorem og(st:kY):(uY st).1.length=4∧Ones (uY st).1:=by
 obtain⟨b,d,m,y,e⟩:=Er (jA st).1;have e':(uY st).1=P1 b d m y:=e;rw[e'];exact⟨D,.of D⟩
theorem Ia(l:List ByteArray):(p9 l).1.length=22∧Ones (p9 l).1:=by
 have h0:gg0.length=22∧Ones gg0:=nm0_ok.g;have hS:(D7 l).1.length=22∧Ones (D7 l).1:=by unfold D7;have hk:=WM (0,l);exact⟨by simp[hk.1,tR],(((((((((hk.2.app (kT _)).app (kT _)).app (.cons D .nil)).app (kT _)).app (kT _)).app (kT _)).app (kT _)).app (kT _)).app (kT _))⟩
 unfold p9;split
 ·simp only;split
  ·exact hS
  ·exact h0
 ·exact h0
theorem Hn(l:List ByteArray):(zW l).1.length=20∧Ones (zW l).1:=by
 have h0:rm0.length=20∧Ones rm0:=nm0_ok.r;have hS:(Dz l).1.length=20∧Ones (Dz l).1:=by unfold Dz;have hk:=WM (0,l);have hd:=fun st=>og st;exact⟨by simp[hk.1,(hd _).1,tR],((((((((hk.2.app (.cons D .nil)).app (kT _)).app (kT _)).app (kT _)).app (kT _)).app (kT _)).app (hd _).2))⟩
 unfold zW;split
 ·simp only;split
  ·exact hS
  ·exact h0
 ·exact h0
theorem Ie(l:List ByteArray):(zV l).1.length=8∧Ones (zV l).1:=by
 have h0:vt0.length=8∧Ones vt0:=nm0_ok.v;have hS:(Gv l).1.length=8∧Ones (Gv l).1:=by unfold Gv;exact⟨by simp[tR],(((kT _).app (kT _)).app (kT _)).app (kT _)⟩
 unfold zV;split
 ·simp only;split
  ·exact hS
  ·exact h0
 ·exact h0
theorem Ic(l:List ByteArray):(zL l).1.dops.length=6∧Ones (zL l).1.dops:=by
 have h0:gs0.dops.length=6∧Ones gs0.dops:=nm0_ok.s;have hS:(Gw l).1.dops.length=6∧Ones (Gw l).1.dops:=by unfold Gw;exact⟨by simp[tR],((kT _).app (kT _)).app (kT _)⟩
 unfold zL;split
 ·simp only;split
  ·exact hS
  ·exact h0
 ·exact h0
theorem Mp: ∀(n:Nat) (st:kY),Ones (lM n st).1.flatten
 |0,st=> .nil
 |n+1,st=>by
  unfold lM;split
  ·exact .nil
  ·rw[kG];refine Ones.app ?_ (Mp n _);unfold Fg;exact(((kT _).app (kT _)).app (kT _)).app (kT _)
theorem SS(l:List ByteArray):Ones (xR l).1.l.flatten:=by
 unfold xR;split
 ·simp only;split
  ·unfold K7;exact Mp _ _
  ·exact .nil
 ·exact .nil
theorem wZ{t:aY}{fs:Array Field}{zs L:List aT}{n:Nat}(hu:Tryz.prog.underlying t=aE (.struct fs))(hz: ∀w,(zeroValue t).run bH w= .ok (.agg zs.toArray) w)
  (Am: ∀w,(fs.mapM (fun f=>do pure (f.offset,←sizeOf f.type)):Sem (Array (Nat × Nat))).run bH w= .ok #[(0,n)] w) (hL:L.length=n) (dm:zs.length=n) (w:aS):
  (Instr.build t #[(0,.agg L.toArray)]).run bH w= .ok (.agg L.toArray) w:=by
 refine xC hu hz Am ?_ w;have e:zs.toArray=([]++zs++ []).toArray:=by simp
 rw[e,mE (off:=0) (size:=n) (cs:=L) D D hL dm D];simp[Instr.fill]
theorem PW(tk ty:ByteArray)(A:Option aW)(n c B:Nat)(f:List ByteArray)(w:aS)(hk:sb ty= [71,71,65])(h:Rd w B 1 A n c (nY f))(hB:B≤w.heap.size)(hn:n≤1000)(hl: ∀s∈f,s.size≤1000000):
  aU bH 234 #[aM #[aH tk,aH ty,aL A n c]] w fun e w'=>e=aJ (aN #[.iface 478 (aM (p9 f).1.toArray),O Y ((p9 f).2:Int)])∧aV w.heap.size w w':=by
 have t1:ty.toList= [71,71,65]:=tl_eq.2 hk;have hb0:aV w.heap.size w (w.alloc (aI #[aH tk,aH ty,aL A n c] 334)):=(bP _ _).alloc (bM _) _;have HC:=bK (Rt A n c B f (w.alloc (aI #[aH tk,aH ty,aL A n c] 334)) (h.up (hb0.mono hB)) (bU hB hb0.size) hn hl);obtain⟨q,hq⟩: ∃q,q=p9 f:=⟨_,D⟩;rw[←hq] at HC ⊢;have hL:=Ia f;rw[←hq] at hL;obtain⟨L,er⟩:=q;have HL:=bK hL;clear hL hq h hk;go_enter uD,sJ;go_wp2_with fail;go_fit HC.out;rintro e w2 ⟨rfl,hbx⟩;have hb:=eI hb0 hbx;clear HC hbx;have hx:=bS w2 (aI #[aG aD,O Y 0,O Y 0,O Y 0,O Y 0,aG aD,O Y 0,aG aD,O Y 0,O Y 0,aG aD,O Y 0,aG aD,O Y 0,aG aD,O Y 0,aG aD,O Y 0,aG aD,O Y 0,aG aD,O Y 0] 71);have hb2:=eI hb ((bP w2.heap.size w2).alloc (bM _) (aI #[aG aD,O Y 0,O Y 0,O Y 0,O Y 0,aG aD,O Y 0,aG aD,O Y 0,O Y 0,aG aD,O Y 0,aG aD,O Y 0,aG aD,O Y 0,aG aD,O Y 0,aG aD,O Y 0,aG aD,O Y 0] 71));have wC:=fun w=>wZ (L:=L) (zs:= #[aG aD,O Y 0,O Y 0,O Y 0,O Y 0,aG aD,O Y 0,aG aD,O Y 0,O Y 0,aG aD,O Y 0,aG aD,O Y 0,aG aD,O Y 0,aG aD,O Y 0,aG aD,O Y 0,aG aD,O Y 0].toList) (n:=22) underlying478 (fun _=>by kernel_rfl) (fun _=>by kernel_rfl) (HL.out.1) D w;have HBD:=bK wC;clear wC;go_wp2_with(with_reducible refine sG [71] ?_);refine eL (bQ D _ _ _ D w2.heap.size L.toArray D D _ _ hx (by rw[cG,HL.out.1];kernel_rfl) (by have e:L.toArray.size=22:=(by rw[cG,HL.out.1]);rw[e];rfl) HL.out.2.all ?_);have hx2:=bW _ _ _ L.toArray _ _ hx;have hb3:=cB hb2 (by exact hb.size) L.toArray;go_wp2_with(with_reducible refine sG [71] ?_);refine eL (dI D _ _ D w2.heap.size D _ _ _ _ hx2 jG D (by rw[cG,HL.out.1];kernel_rfl) ?_);go_wp2_with(with_reducible refine iB 478 ?_);refine eL (fR (parts:= #[(0,.agg L.toArray)]) (out:=L) (by simp only[eG,eE,fK];rfl) HBD.out ?_);clear hx hx2 HBD;go_wp2;go_ret2;exact⟨D,hb3⟩
theorem ON(tk ty:ByteArray)(A:Option aW)(n c B:Nat)(f:List ByteArray)(w:aS)(hk:sb ty= [82,77,67])(h:Rd w B 1 A n c (nY f))(hB:B≤w.heap.size)(hn:n≤1000)(hl: ∀s∈f,s.size≤1000000):
  aU bH 234 #[aM #[aH tk,aH ty,aL A n c]] w fun e w'=>e=aJ (aN #[.iface 482 (aM (zW f).1.toArray),O Y ((zW f).2:Int)])∧aV w.heap.size w w':=by
 have t1:ty.toList= [82,77,67]:=tl_eq.2 hk;have hb0:aV w.heap.size w (w.alloc (aI #[aH tk,aH ty,aL A n c] 334)):=(bP _ _).alloc (bM _) _;have HC:=bK (R5 A n c B f (w.alloc (aI #[aH tk,aH ty,aL A n c] 334)) (h.up (hb0.mono hB)) (bU hB hb0.size) hn hl);obtain⟨q,hq⟩: ∃q,q=zW f:=⟨_,D⟩;rw[←hq] at HC ⊢;have hL:=Hn f;rw[←hq] at hL;obtain⟨L,er⟩:=q;have HL:=bK hL;clear hL hq h hk;go_enter uD,sJ;go_wp2_with fail;go_fit HC.out;rintro e w2 ⟨rfl,hbx⟩;have hb:=eI hb0 hbx;clear HC hbx;have hx:=bS w2 (aI #[aG aD,O Y 0,O Y 0,O Y 0,O Y 0,aG aD,aG aD,O Y 0,aG aD,O Y 0,aG aD,O Y 0,aG aD,O Y 0,aG aD,O Y 0,aG aD,O Y 0,O Y 0,O Y 0] 75);have hb2:=eI hb ((bP w2.heap.size w2).alloc (bM _) (aI #[aG aD,O Y 0,O Y 0,O Y 0,O Y 0,aG aD,aG aD,O Y 0,aG aD,O Y 0,aG aD,O Y 0,aG aD,O Y 0,aG aD,O Y 0,aG aD,O Y 0,O Y 0,O Y 0] 75));have wC:=fun w=>wZ (L:=L) (zs:= #[aG aD,O Y 0,O Y 0,O Y 0,O Y 0,aG aD,aG aD,O Y 0,aG aD,O Y 0,aG aD,O Y 0,aG aD,O Y 0,aG aD,O Y 0,aG aD,O Y 0,O Y 0,O Y 0].toList) (n:=20) underlying482 (fun _=>by kernel_rfl) (fun _=>by kernel_rfl) (HL.out.1) D w;have HBD:=bK wC;clear wC;go_wp2_with(with_reducible refine sG [75] ?_);refine eL (bQ D _ _ _ D w2.heap.size L.toArray D D _ _ hx (by rw[cG,HL.out.1];kernel_rfl) (by have e:L.toArray.size=20:=(by rw[cG,HL.out.1]);rw[e];rfl) HL.out.2.all ?_);have hx2:=bW _ _ _ L.toArray _ _ hx;have hb3:=cB hb2 (by exact hb.size) L.toArray;go_wp2_with(with_reducible refine sG [75] ?_);refine eL (dI D _ _ D w2.heap.size D _ _ _ _ hx2 jE D (by rw[cG,HL.out.1];kernel_rfl) ?_);go_wp2_with(with_reducible refine iB 482 ?_);refine eL (fR (parts:= #[(0,.agg L.toArray)]) (out:=L) (by simp only[eG,eE,fK];rfl) HBD.out ?_);clear hx hx2 HBD;go_wp2;go_ret2;exact⟨D,hb3⟩
theorem PZ(tk ty:ByteArray)(A:Option aW)(n c B:Nat)(f:List ByteArray)(w:aS)(hk:sb ty= [86,84,71])(h:Rd w B 1 A n c (nY f))(hB:B≤w.heap.size)(hn:n≤1000)(hl: ∀s∈f,s.size≤1000000):
  aU bH 234 #[aM #[aH tk,aH ty,aL A n c]] w fun e w'=>e=aJ (aN #[.iface 490 (aM (zV f).1.toArray),O Y ((zV f).2:Int)])∧aV w.heap.size w w':=by
 have t1:ty.toList= [86,84,71]:=tl_eq.2 hk;have hb0:aV w.heap.size w (w.alloc (aI #[aH tk,aH ty,aL A n c] 334)):=(bP _ _).alloc (bM _) _;have HC:=bK (Qe A n c B f (w.alloc (aI #[aH tk,aH ty,aL A n c] 334)) (h.up (hb0.mono hB)) (bU hB hb0.size) hn hl);obtain⟨q,hq⟩: ∃q,q=zV f:=⟨_,D⟩;rw[←hq] at HC ⊢;have hL:=Ie f;rw[←hq] at hL;obtain⟨L,er⟩:=q;have HL:=bK hL;clear hL hq h hk;go_enter uD,sJ;go_wp2_with fail;go_fit HC.out;rintro e w2 ⟨rfl,hbx⟩;have hb:=eI hb0 hbx;clear HC hbx;have hx:=bS w2 (aI #[aG aD,O Y 0,aG aD,O Y 0,aG aD,O Y 0,aG aD,O Y 0] 79);have hb2:=eI hb ((bP w2.heap.size w2).alloc (bM _) (aI #[aG aD,O Y 0,aG aD,O Y 0,aG aD,O Y 0,aG aD,O Y 0] 79));have wC:=fun w=>wZ (L:=L) (zs:= #[aG aD,O Y 0,aG aD,O Y 0,aG aD,O Y 0,aG aD,O Y 0].toList) (n:=8) underlying490 (fun _=>by kernel_rfl) (fun _=>by kernel_rfl) (HL.out.1) D w;have HBD:=bK wC;clear wC;go_wp2_with(with_reducible refine sG [79] ?_);refine eL (bQ D _ _ _ D w2.heap.size L.toArray D D _ _ hx (by rw[cG,HL.out.1];kernel_rfl) (by have e:L.toArray.size=8:=(by rw[cG,HL.out.1]);rw[e];rfl) HL.out.2.all ?_);have hx2:=bW _ _ _ L.toArray _ _ hx;have hb3:=cB hb2 (by exact hb.size) L.toArray;go_wp2_with(with_reducible refine sG [79] ?_);refine eL (dI D _ _ D w2.heap.size D _ _ _ _ hx2 jD D (by rw[cG,HL.out.1];kernel_rfl) ?_);go_wp2_with(with_reducible refine iB 490 ?_);refine eL (fR (parts:= #[(0,.agg L.toArray)]) (out:=L) (by simp only[eG,eE,fK];rfl) HBD.out ?_);clear hx hx2 HBD;go_wp2;go_ret2;exact⟨D,hb3⟩
theorem SM(tk ty:ByteArray)(A:Option aW)(n c B:Nat)(f:List ByteArray)(w:aS)(hk:sb ty= [71,83,65])(h:Rd w B 1 A n c (nY f))(hB:B≤w.heap.size)(hn:n≤1000)(hl: ∀s∈f,s.size≤1000000):
  aU bH 234 #[aM #[aH tk,aH ty,aL A n c]] w fun e w'=> ∃A' n' c',e=aJ (aN #[.iface 486 (aM (C8 (zL f).1 A' n' c').toArray),O Y ((zL f).2:Int)])∧Rd w' w'.heap.size 1 A' n' c' ((zL f).1.ids.map (Value.int Y))∧n'≤1000∧aV w.heap.size w w':=by
 have t1:ty.toList= [71,83,65]:=tl_eq.2 hk;have hb0:aV w.heap.size w (w.alloc (aI #[aH tk,aH ty,aL A n c] 334)):=(bP _ _).alloc (bM _) _;have HC:=bK (Ro A n c B f (w.alloc (aI #[aH tk,aH ty,aL A n c] 334)) (h.up (hb0.mono hB)) (bU hB hb0.size) hn hl);obtain⟨q,hq⟩: ∃q,q=zL f:=⟨_,D⟩;rw[←hq] at HC ⊢;have hL:=Ic f;rw[←hq] at hL;obtain⟨V,er⟩:=q;have HL:=bK hL;clear hL hq h hk;go_enter uD,sJ;go_wp2_with fail;go_fit HC.out;rintro e w2 ⟨A2,n2,c2,rfl,hr2,Tc,tM,hbx⟩;have hb:=eI hb0 hbx;obtain⟨L,Lp⟩: ∃L,L=C8 V A2 n2 c2:=⟨_,D⟩;have ss:L.length=9∧Ones L:=by rw[Lp];exact⟨by simp[C8,HL.out.1],O1 HL.out.2⟩
 have HLL:=bK ss;have HR:=bK hr2;have HLE:=bK Lp;show _;rw[←Lp];clear ss Lp hr2 HL;clear HC hbx;have hx:=bS w2 (aI #[aG aD,O Y 0,aL J 0 0,aG aD,O Y 0,aG aD,O Y 0,aG aD,O Y 0] 77);have hb2:=eI hb ((bP w2.heap.size w2).alloc (bM _) (aI #[aG aD,O Y 0,aL J 0 0,aG aD,O Y 0,aG aD,O Y 0,aG aD,O Y 0] 77));have hbr:aV w2.heap.size w2 (w2.alloc (aI #[aG aD,O Y 0,aL J 0 0,aG aD,O Y 0,aG aD,O Y 0,aG aD,O Y 0] 77)):=(bP _ _).alloc (bM _) _;have wC:=fun w=>wZ (L:=L) (zs:= #[aG aD,O Y 0,aL J 0 0,aG aD,O Y 0,aG aD,O Y 0,aG aD,O Y 0].toList) (n:=9) underlying486 (fun _=>by kernel_rfl) (fun _=>by kernel_rfl) (HLL.out.1) D w;have HBD:=bK wC;clear wC;go_wp2_with(with_reducible refine sG [77] ?_);refine eL (bQ D _ _ _ D w2.heap.size L.toArray D D _ _ hx (by rw[cG,HLL.out.1];kernel_rfl) (by have e:L.toArray.size=9:=(by rw[cG,HLL.out.1]);rw[e];rfl) HLL.out.2.all ?_);have hx2:=bW _ _ _ L.toArray _ _ hx;have hb3:=cB hb2 (by exact hb.size) L.toArray;have hb4:=cB hbr (bM _) L.toArray;have hr4:=HR.out.nx hb4;generalize((w2.alloc (aI #[aG aD,O Y 0,aL J 0 0,aG aD,O Y 0,aG aD,O Y 0,aG aD,O Y 0] 77)).setRow w2.heap.size L.toArray)=w4 at*;go_wp2_with(with_reducible refine sG [77] ?_);refine eL (dI D _ _ D w2.heap.size D _ _ _ _ hx2 lD D (by rw[cG,HLL.out.1];kernel_rfl) ?_);go_wp2_with(with_reducible refine iB 486 ?_);refine eL (fR (parts:= #[(0,.agg L.toArray)]) (out:=L) (by simp only[eG,eE,fK];rfl) HBD.out ?_);clear hx hx2 HBD;go_wp2;go_ret2;exact⟨A2,n2,c2,by rw[←HLE.out];rfl,hr4,by omega,hb3⟩
theorem SH(tk ty:ByteArray)(A:Option aW)(n c B:Nat)(f:List ByteArray)(w:aS)(hk:sb ty= [71,83,86])(h:Rd w B 1 A n c (nY f))(hB:B≤w.heap.size)(hn:n≤1000)(hl: ∀s∈f,s.size≤1000000):
  aU bH 234 #[aM #[aH tk,aH ty,aL A n c]] w fun e w'=> ∃A' n' c',e=aJ (aN #[.iface 494 (aM (Gl (xR f).1 A' n' c').toArray),O Y ((xR f).2:Int)])∧RdR w' w'.heap.size 8 A' n' c' (xR f).1.l∧n'≤1000∧aV w.heap.size w w':=by
 have t1:ty.toList= [71,83,86]:=tl_eq.2 hk;have hb0:aV w.heap.size w (w.alloc (aI #[aH tk,aH ty,aL A n c] 334)):=(bP _ _).alloc (bM _) _;have HC:=bK (Sl A n c B f (w.alloc (aI #[aH tk,aH ty,aL A n c] 334)) (h.up (hb0.mono hB)) (bU hB hb0.size) hn hl);obtain⟨q,hq⟩: ∃q,q=xR f:=⟨_,D⟩;rw[←hq] at HC ⊢;obtain⟨V,er⟩:=q;clear hq h hk;go_enter uD,sJ;go_wp2_with fail;go_fit HC.out;rintro e w2 ⟨A2,n2,c2,rfl,hr2,Tc,tM,hbx⟩;have hb:=eI hb0 hbx;obtain⟨L,Lp⟩: ∃L,L=Gl V A2 n2 c2:=⟨_,D⟩;have ss:L.length=4∧Ones L:=by rw[Lp];exact⟨D,Ns⟩
 have HLL:=bK ss;have HR:=bK hr2;have HLE:=bK Lp;show _;rw[←Lp];clear ss Lp hr2;clear HC hbx;have hx:=bS w2 (aI #[O Y 0,O Y 0,O Y 0,aL J 0 0] 82);have hb2:=eI hb ((bP w2.heap.size w2).alloc (bM _) (aI #[O Y 0,O Y 0,O Y 0,aL J 0 0] 82));have hbr:aV w2.heap.size w2 (w2.alloc (aI #[O Y 0,O Y 0,O Y 0,aL J 0 0] 82)):=(bP _ _).alloc (bM _) _;have wC:=fun w=>wZ (L:=L) (zs:= #[O Y 0,O Y 0,O Y 0,aL J 0 0].toList) (n:=4) underlying494 (fun _=>by kernel_rfl) (fun _=>by kernel_rfl) (HLL.out.1) D w;have HBD:=bK wC;clear wC;go_wp2_with(with_reducible refine sG [82] ?_);refine eL (bQ D _ _ _ D w2.heap.size L.toArray D D _ _ hx (by rw[cG,HLL.out.1];kernel_rfl) (by have e:L.toArray.size=4:=(by rw[cG,HLL.out.1]);rw[e];rfl) HLL.out.2.all ?_);have hx2:=bW _ _ _ L.toArray _ _ hx;have hb3:=cB hb2 (by exact hb.size) L.toArray;have hb4:=cB hbr (bM _) L.toArray;have hr4:=HR.out.nx hb4;generalize((w2.alloc (aI #[O Y 0,O Y 0,O Y 0,aL J 0 0] 82)).setRow w2.heap.size L.toArray)=w4 at*;go_wp2_with(with_reducible refine sG [82] ?_);refine eL (dI D _ _ D w2.heap.size D _ _ _ _ hx2 jC D (by rw[cG,HLL.out.1];kernel_rfl) ?_);go_wp2_with(with_reducible refine iB 494 ?_);refine eL (fR (parts:= #[(0,.agg L.toArray)]) (out:=L) (by simp only[eG,eE,fK];rfl) HBD.out ?_);clear hx hx2 HBD;go_wp2;go_ret2;exact⟨A2,n2,c2,by rw[←HLE.out];rfl,hr4,by omega,hb3⟩
abbrev iR:=@Nat.le_succ
abbrev sK:=@ntmps180
abbrev uE:=@func180
theorem JE{w w':aS}{B size n c g:Nat}{A:Option aW}{xs:List aT}(h:Rd w B size A n c xs)(hB:B≤w.heap.size)(haw:Aw (fun k=>k=g) w w')(hf: ∀p,A=aE p→p.block≠g):Rd w' w'.heap.size size A n c xs:=
 ⟨h.len,h.le,h.max,fun hn=>by
  obtain⟨ad,e,hg,hr⟩:=h.at_ hn;have EJ:ad.block≠g:=hf _ e;have hbw:ad.block<w.heap.size:=cI hg hB;refine⟨ad,e,cI hbw haw.size,fun j u hu=> ?_⟩;have h1:=hr j u hu;have h2:=haw.block ad.block hbw EJ;unfold World.cell? at h1 ⊢;rw[lL] at h1 ⊢;rw[h2]
  exact h1⟩
theorem OS{w w':aS}{B size n c g:Nat}{A:Option aW}{ls:List (List aT)}(h:RdR w B size A n c ls)(hB:B≤w.heap.size)(haw:Aw (fun k=>k=g) w w')(hf: ∀p,A=aE p→p.block≠g):RdR w' w'.heap.size size A n c ls:=
 ⟨h.1,h.2.1,h.2.2.1,h.2.2.2.1,fun hn=>by
  obtain⟨b,off,e,hg,hr⟩:=h.2.2.2.2 hn;have EJ:b≠g:=hf _ e;have hbw:b<w.heap.size:=cI hg hB;refine⟨b,off,e,cI hbw haw.size,fun k r hk j v hv=> ?_⟩;have h1:=hr k r hk j v hv;have h2:=haw.block b hbw EJ;unfold World.cell? at h1 ⊢;rw[h2]
  exact h1⟩
theorem NmR.aw{w w':aS}{V:En}{a:Kh}{g:Nat}(h:NmR w w.heap.size V a)(haw:Aw (fun k=>k=g) w w')(hf: ∀p,a.A=aE p∨a.A'=aE p→p.block≠g):NmR w' w'.heap.size V a:=
 ⟨JE h.s (bM _) haw (fun p hp=>hf p (.inl hp)),OS h.q (bM _) haw (fun p hp=>hf p (.inr hp))⟩
def M1(w:aS)(V:En)(er:Nat)(e:aX)(w':aS):Prop:=
 ∃a,e=aJ (aN #[aM (iE V a).toArray,O Y (er:Int)])∧NmR w' w'.heap.size V a∧(∀p,a.A=aE p∨a.A'=aE p→w.heap.size≤p.block)∧aV w.heap.size w w'
theorem QY(S:Cz)(A:Option aW)(n c B:Nat)(w:aS)(hk:sb S.ty= [71,71,65])(h:Rd w B 1 A n c (nY S.f))(hB:B≤w.heap.size)(hn:n≤1000)(hl: ∀s∈S.f,s.size≤1000000):
  aU bH 180 #[aM (y7 S A n c).toArray] w (M1 w (o7 S) (vQ S)):=by
 have Kp:yT S.ty=1:=by unfold yT;rw[hk];rfl
 have hE:vQ S=(p9 S.f).2:=by unfold vQ;rw[Kp];rfl
 have Pm:Ai S= { nm0 with k:=1,tk:=S.tk,gga:=(p9 S.f).1 } :=by unfold Ai;rw[Kp];rfl
 have hok3:NmOk { nm0 with k:=1,tk:=S.tk,gga:=(p9 S.f).1 } :=⟨Ia S.f,nm0_ok.r,nm0_ok.s,nm0_ok.v⟩;have HG:=bK (bO hE Pm);have hT:o7 S=(if vQ S=0 then Ai S else nm0):=D;rw[hE,Pm] at hT;rw[hE];obtain⟨hx,hres,iJ,hb⟩:=yZ w (aI (y7 S A n c).toArray 334) (aI bI 84);have hxr:((w.alloc (aI (y7 S A n c).toArray 334)).alloc (aI bI 84)).rangeAt w.heap.size 0 (y7 S A n c):=tU hx;have HC:=bK (PW S.tk S.ty A n c B S.f ((w.alloc (aI (y7 S A n c).toArray 334)).alloc (aI bI 84)) hk (h.up (hb.mono hB)) (by omega) hn hl);obtain⟨q,hq⟩: ∃q,q=p9 S.f:=⟨_,D⟩;rw[←hq] at HC hT hok3 ⊢;have hQ:=Ia S.f;rw[←hq] at hQ;obtain⟨L,er⟩:=q;simp only at hT hok3 hQ;have HQ:=bK hQ;have HTT:=bK hT;have c0:=bL (i:=0) (v:=aH S.tk) hx D;clear hq hE Pm Kp hk h hl hT hQ HG;go_enter uE,sK;simp only[y7] at*;go_wp2_with fail;go_fit HC.out;rintro e w2 ⟨rfl,hbx⟩;have hx2:=bV hx hbx (bT hx);have dQ:=bV hres hbx (bT hres);have hb2:=eI hb hbx;have d0:=bL (i:=0) (v:=aH S.tk) hx2 D;clear HC hbx hx hres hb c0 hxr;by_cases he:er=0
 case neg=>
  have zZ: ¬(er:Int)=0:=by omega
  have HT:Hid (o7 S=nm0∧True):=bK ⟨by rw[HTT.out,bX he],cM⟩;clear hx2 d0 he;go_wp2_with(with_reducible refine sG [84] ?_);rw[Dc];refine eL (bQ D _ _ _ D (w.heap.size+1) (iE nm0 jH).toArray D D _ _ dQ (eO _ kX) (nL _ kX) (nm0_ok.one _).all ?_);have cS:=bW _ _ _ (iE nm0 jH).toArray _ _ dQ;have hb5:=cB hb2 (iR _) (iE nm0 jH).toArray;simp only[Act.put];repeat go_step
  exact bR (cD D _ _ (w.heap.size+1) _ _ _ _ D cS dJ D (eO _ kX)) D ⟨jH,by rw[HT.out.1];rfl,by rw[HT.out.1];exact rJ _ _ _ D D,fun p hp=>(by rcases hp with hp|hp<;>cases hp),hb5⟩
 have zZ:(er:Int)=0:=by omega
 have HT:Hid (o7 S= { nm0 with k:=1,tk:=S.tk,gga:=L }):=bK (by rw[HTT.out,bY he]);have HER:=bK he;have hg2:=bT dQ;have HWC:=bK (TA S.tk L HQ.out.1 HQ.out.2 w2);clear he HTT;go_wp2_with fail;go_fit HWC.out;rintro e w3 ⟨rfl,hbx⟩;have hres3:=bV dQ hbx hg2;have hb3:=eI hb2 hbx;have hm:=bS w3 (aI bI 84);have rW:aV w3.heap.size w3 (w3.alloc (aI bI 84)):=(bP _ _).alloc (bM _) _;have fM:=bV hres3 rW (bT hres3);have hb4:=eI hb3 rW;have Cq:=hbx.size;clear dQ hb2 hbx hres3 hb3 hx2 d0 HWC;go_wp2_with(with_reducible refine sG [84] ?_);refine eL (bQ D _ _ _ D w3.heap.size (iE { nm0 with k:=1,tk:=S.tk,gga:=L } jH).toArray D D _ _ hm (eO _ hok3) (nL _ hok3) (hok3.one _).all ?_);have Kq:NmB _ w3.heap.size { nm0 with k:=1,tk:=S.tk,gga:=L } jH:=bW _ _ _ (iE { nm0 with k:=1,tk:=S.tk,gga:=L } jH).toArray _ _ hm;have haw:=dZ (w:=w3.alloc (aI bI 84)) w3.heap.size (iE { nm0 with k:=1,tk:=S.tk,gga:=L } jH).toArray;have cS:=haw.keep fM (by omega);have hb5:=cJ hb4 haw (fun k hk=>by omega);clear hm haw fM hb4;generalize((w3.alloc (aI bI 84)).setRow w3.heap.size (iE { nm0 with k:=1,tk:=S.tk,gga:=L } jH).toArray)=w5 at*;go_wp2_with(with_reducible refine sG [84] ?_);refine eL (dI D _ _ D w3.heap.size D _ _ _ _ Kq dJ D (eO _ hok3) ?_);go_wp2_with(with_reducible refine sG [84] ?_);refine eL (bQ D _ _ _ D (w.heap.size+1) (iE { nm0 with k:=1,tk:=S.tk,gga:=L } jH).toArray D D _ _ cS (eO _ hok3) (nL _ hok3) (hok3.one _).all ?_);have iW:=bW _ _ _ (iE { nm0 with k:=1,tk:=S.tk,gga:=L } jH).toArray _ _ cS;have hb6:=cB hb5 (iR _) (iE { nm0 with k:=1,tk:=S.tk,gga:=L } jH).toArray;simp only[Act.put];repeat go_step
 exact bR (cD D _ _ (w.heap.size+1) _ _ _ _ D iW dJ D (eO _ hok3)) D ⟨jH,by rw[HT.out,HER.out];rfl,by rw[HT.out];exact rJ _ _ _ D D,fun p hp=>(by rcases hp with hp|hp<;>cases hp),hb6⟩
theorem PH(S:Cz)(A:Option aW)(n c B:Nat)(w:aS)(hk:sb S.ty= [82,77,67])(h:Rd w B 1 A n c (nY S.f))(hB:B≤w.heap.size)(hn:n≤1000)(hl: ∀s∈S.f,s.size≤1000000):
  aU bH 180 #[aM (y7 S A n c).toArray] w (M1 w (o7 S) (vQ S)):=by
 have Kp:yT S.ty=2:=by unfold yT;rw[hk];rfl
 have hE:vQ S=(zW S.f).2:=by unfold vQ;rw[Kp];rfl
 have Pm:Ai S= { nm0 with k:=2,tk:=S.tk,rmc:=(zW S.f).1 } :=by unfold Ai;rw[Kp];rfl
 have hok3:NmOk { nm0 with k:=2,tk:=S.tk,rmc:=(zW S.f).1 } :=⟨nm0_ok.g,Hn S.f,nm0_ok.s,nm0_ok.v⟩;have HG:=bK (bO hE Pm);have hT:o7 S=(if vQ S=0 then Ai S else nm0):=D;rw[hE,Pm] at hT;rw[hE];obtain⟨hx,hres,iJ,hb⟩:=yZ w (aI (y7 S A n c).toArray 334) (aI bI 84);have hxr:((w.alloc (aI (y7 S A n c).toArray 334)).alloc (aI bI 84)).rangeAt w.heap.size 0 (y7 S A n c):=tU hx;have HC:=bK (ON S.tk S.ty A n c B S.f ((w.alloc (aI (y7 S A n c).toArray 334)).alloc (aI bI 84)) hk (h.up (hb.mono hB)) (by omega) hn hl);obtain⟨q,hq⟩: ∃q,q=zW S.f:=⟨_,D⟩;rw[←hq] at HC hT hok3 ⊢;have hQ:=Hn S.f;rw[←hq] at hQ;obtain⟨L,er⟩:=q;simp only at hT hok3 hQ;have HQ:=bK hQ;have HTT:=bK hT;have c0:=bL (i:=0) (v:=aH S.tk) hx D;clear hq hE Pm Kp hk h hl hT hQ HG;go_enter uE,sK;simp only[y7] at*;go_wp2_with fail;go_fit HC.out;rintro e w2 ⟨rfl,hbx⟩;have hx2:=bV hx hbx (bT hx);have dQ:=bV hres hbx (bT hres);have hb2:=eI hb hbx;have d0:=bL (i:=0) (v:=aH S.tk) hx2 D;clear HC hbx hx hres hb c0 hxr;by_cases he:er=0
 case neg=>
  have zZ: ¬(er:Int)=0:=by omega
  have HT:Hid (o7 S=nm0∧True):=bK ⟨by rw[HTT.out,bX he],cM⟩;clear hx2 d0 he;go_wp2_with(with_reducible refine sG [84] ?_);rw[Dc];refine eL (bQ D _ _ _ D (w.heap.size+1) (iE nm0 jH).toArray D D _ _ dQ (eO _ kX) (nL _ kX) (nm0_ok.one _).all ?_);have cS:=bW _ _ _ (iE nm0 jH).toArray _ _ dQ;have hb5:=cB hb2 (iR _) (iE nm0 jH).toArray;simp only[Act.put];repeat go_step
  exact bR (cD D _ _ (w.heap.size+1) _ _ _ _ D cS dJ D (eO _ kX)) D ⟨jH,by rw[HT.out.1];rfl,by rw[HT.out.1];exact rJ _ _ _ D D,fun p hp=>(by rcases hp with hp|hp<;>cases hp),hb5⟩
 have zZ:(er:Int)=0:=by omega
 have HT:Hid (o7 S= { nm0 with k:=2,tk:=S.tk,rmc:=L }):=bK (by rw[HTT.out,bY he]);have HER:=bK he;have hg2:=bT dQ;have HWC:=bK (TR S.tk L HQ.out.1 HQ.out.2 w2);clear he HTT;go_wp2_with fail;go_fit HWC.out;rintro e w3 ⟨rfl,hbx⟩;have hres3:=bV dQ hbx hg2;have hb3:=eI hb2 hbx;have hm:=bS w3 (aI bI 84);have rW:aV w3.heap.size w3 (w3.alloc (aI bI 84)):=(bP _ _).alloc (bM _) _;have fM:=bV hres3 rW (bT hres3);have hb4:=eI hb3 rW;have Cq:=hbx.size;clear dQ hb2 hbx hres3 hb3 hx2 d0 HWC;go_wp2_with(with_reducible refine sG [84] ?_);refine eL (bQ D _ _ _ D w3.heap.size (iE { nm0 with k:=2,tk:=S.tk,rmc:=L } jH).toArray D D _ _ hm (eO _ hok3) (nL _ hok3) (hok3.one _).all ?_);have Kq:NmB _ w3.heap.size { nm0 with k:=2,tk:=S.tk,rmc:=L } jH:=bW _ _ _ (iE { nm0 with k:=2,tk:=S.tk,rmc:=L } jH).toArray _ _ hm;have haw:=dZ (w:=w3.alloc (aI bI 84)) w3.heap.size (iE { nm0 with k:=2,tk:=S.tk,rmc:=L } jH).toArray;have cS:=haw.keep fM (by omega);have hb5:=cJ hb4 haw (fun k hk=>by omega);clear hm haw fM hb4;generalize((w3.alloc (aI bI 84)).setRow w3.heap.size (iE { nm0 with k:=2,tk:=S.tk,rmc:=L } jH).toArray)=w5 at*;go_wp2_with(with_reducible refine sG [84] ?_);refine eL (dI D _ _ D w3.heap.size D _ _ _ _ Kq dJ D (eO _ hok3) ?_);go_wp2_with(with_reducible refine sG [84] ?_);refine eL (bQ D _ _ _ D (w.heap.size+1) (iE { nm0 with k:=2,tk:=S.tk,rmc:=L } jH).toArray D D _ _ cS (eO _ hok3) (nL _ hok3) (hok3.one _).all ?_);have iW:=bW _ _ _ (iE { nm0 with k:=2,tk:=S.tk,rmc:=L } jH).toArray _ _ cS;have hb6:=cB hb5 (iR _) (iE { nm0 with k:=2,tk:=S.tk,rmc:=L } jH).toArray;simp only[Act.put];repeat go_step
 exact bR (cD D _ _ (w.heap.size+1) _ _ _ _ D iW dJ D (eO _ hok3)) D ⟨jH,by rw[HT.out,HER.out];rfl,by rw[HT.out];exact rJ _ _ _ D D,fun p hp=>(by rcases hp with hp|hp<;>cases hp),hb6⟩
theorem TQ(S:Cz)(A:Option aW)(n c B:Nat)(w:aS)(hk:sb S.ty= [71,83,65])(h:Rd w B 1 A n c (nY S.f))(hB:B≤w.heap.size)(hn:n≤1000)(hl: ∀s∈S.f,s.size≤1000000):
  aU bH 180 #[aM (y7 S A n c).toArray] w (M1 w (o7 S) (vQ S)):=by
 have Kp:yT S.ty=3:=by unfold yT;rw[hk];rfl
 have hE:vQ S=(zL S.f).2:=by unfold vQ;rw[Kp];rfl
 have Pm:Ai S= { nm0 with k:=3,tk:=S.tk,gsa:=(zL S.f).1 } :=by unfold Ai;rw[Kp];rfl
 have hok3:NmOk { nm0 with k:=3,tk:=S.tk,gsa:=(zL S.f).1 } :=⟨nm0_ok.g,nm0_ok.r,Ic S.f,nm0_ok.v⟩;have HG:=bK (bO hE Pm);have hT:o7 S=(if vQ S=0 then Ai S else nm0):=D;rw[hE,Pm] at hT;rw[hE];obtain⟨hx,hres,iJ,hb⟩:=yZ w (aI (y7 S A n c).toArray 334) (aI bI 84);have hxr:((w.alloc (aI (y7 S A n c).toArray 334)).alloc (aI bI 84)).rangeAt w.heap.size 0 (y7 S A n c):=tU hx;have HC:=bK (SM S.tk S.ty A n c B S.f ((w.alloc (aI (y7 S A n c).toArray 334)).alloc (aI bI 84)) hk (h.up (hb.mono hB)) (by omega) hn hl);obtain⟨q,hq⟩: ∃q,q=zL S.f:=⟨_,D⟩;rw[←hq] at HC hT hok3 ⊢;have hQ:=Ic S.f;rw[←hq] at hQ;obtain⟨v,er⟩:=q;simp only at hT hok3 hQ;have HQ:=bK hQ;have HTT:=bK hT;have c0:=bL (i:=0) (v:=aH S.tk) hx D;clear hq hE Pm Kp hk h hl hT hQ HG;go_enter uE,sK;simp only[y7] at*;go_wp2_with fail;go_fit HC.out;rintro e w2 ⟨A2,n2,c2,rfl,hr2,tM,hbx⟩;have hx2:=bV hx hbx (bT hx);have dQ:=bV hres hbx (bT hres);have hb2:=eI hb hbx;have d0:=bL (i:=0) (v:=aH S.tk) hx2 D;clear HC hbx hx hres hb c0 hxr;by_cases he:er=0
 case neg=>
  have zZ: ¬(er:Int)=0:=by omega
  have HT:Hid (o7 S=nm0∧True):=bK ⟨by rw[HTT.out,bX he],cM⟩;clear hx2 d0 he;go_wp2_with(with_reducible refine sG [84] ?_);rw[Dc];refine eL (bQ D _ _ _ D (w.heap.size+1) (iE nm0 jH).toArray D D _ _ dQ (eO _ kX) (nL _ kX) (nm0_ok.one _).all ?_);have cS:=bW _ _ _ (iE nm0 jH).toArray _ _ dQ;have hb5:=cB hb2 (iR _) (iE nm0 jH).toArray;simp only[Act.put];repeat go_step
  exact bR (cD D _ _ (w.heap.size+1) _ _ _ _ D cS dJ D (eO _ kX)) D ⟨jH,by rw[HT.out.1];rfl,by rw[HT.out.1];exact rJ _ _ _ D D,fun p hp=>(by rcases hp with hp|hp<;>cases hp),hb5⟩
 have zZ:(er:Int)=0:=by omega
 have HT:Hid (o7 S= { nm0 with k:=3,tk:=S.tk,gsa:=v }):=bK (by rw[HTT.out,bY he]);have HER:=bK he;have hg2:=bT dQ;have HWC:=bK (QG S.tk v HQ.out.1 HQ.out.2 A2 n2 c2 w2.heap.size w2 hr2 (bM _) tM);clear he HTT hr2;go_wp2_with fail;go_fit HWC.out;rintro e w3 ⟨a,rfl,hrw,XD,hbx⟩;have hres3:=bV dQ hbx hg2;have hb3:=eI hb2 hbx;have hm:=bS w3 (aI bI 84);have rW:aV w3.heap.size w3 (w3.alloc (aI bI 84)):=(bP _ _).alloc (bM _) _;have fM:=bV hres3 rW (bT hres3);have hb4:=eI hb3 rW;have Cq:=hbx.size;have hr4:=hrw.nx rW;clear dQ hb2 hbx hres3 hb3 hx2 d0 HWC;go_wp2_with(with_reducible refine sG [84] ?_);refine eL (bQ D _ _ _ D w3.heap.size (iE { nm0 with k:=3,tk:=S.tk,gsa:=v } a).toArray D D _ _ hm (eO _ hok3) (nL _ hok3) (hok3.one _).all ?_);have Kq:NmB _ w3.heap.size { nm0 with k:=3,tk:=S.tk,gsa:=v } a:=bW _ _ _ (iE { nm0 with k:=3,tk:=S.tk,gsa:=v } a).toArray _ _ hm;have haw:=dZ (w:=w3.alloc (aI bI 84)) w3.heap.size (iE { nm0 with k:=3,tk:=S.tk,gsa:=v } a).toArray;have cS:=haw.keep fM (by omega);have hb5:=cJ hb4 haw (fun k hk=>by omega);have hr5:=hrw.nx (cB rW (bM _) (iE { nm0 with k:=3,tk:=S.tk,gsa:=v } a).toArray);clear hm haw fM hb4 hr4;generalize((w3.alloc (aI bI 84)).setRow w3.heap.size (iE { nm0 with k:=3,tk:=S.tk,gsa:=v } a).toArray)=w5 at*;go_wp2_with(with_reducible refine sG [84] ?_);refine eL (dI D _ _ D w3.heap.size D _ _ _ _ Kq dJ D (eO _ hok3) ?_);go_wp2_with(with_reducible refine sG [84] ?_);refine eL (bQ D _ _ _ D (w.heap.size+1) (iE { nm0 with k:=3,tk:=S.tk,gsa:=v } a).toArray D D _ _ cS (eO _ hok3) (nL _ hok3) (hok3.one _).all ?_);have iW:=bW _ _ _ (iE { nm0 with k:=3,tk:=S.tk,gsa:=v } a).toArray _ _ cS;have hb6:=cB hb5 (iR _) (iE { nm0 with k:=3,tk:=S.tk,gsa:=v } a).toArray;have hr6:=hr5.aw (dZ (w:=w5) (w.heap.size+1) (iE { nm0 with k:=3,tk:=S.tk,gsa:=v } a).toArray) (fun p hp=>by have:=XD p hp;omega);simp only[Act.put];repeat go_step
 exact bR (cD D _ _ (w.heap.size+1) _ _ _ _ D iW dJ D (eO _ hok3)) D ⟨a,by rw[HT.out,HER.out];rfl,by rw[HT.out];exact hr6,fun p hp=>(by have:=XD p hp;omega),hb6⟩
theorem SD(S:Cz)(A:Option aW)(n c B:Nat)(w:aS)(hk:sb S.ty= [86,84,71])(h:Rd w B 1 A n c (nY S.f))(hB:B≤w.heap.size)(hn:n≤1000)(hl: ∀s∈S.f,s.size≤1000000):
  aU bH 180 #[aM (y7 S A n c).toArray] w (M1 w (o7 S) (vQ S)):=by
 have Kp:yT S.ty=4:=by unfold yT;rw[hk];rfl
 have hE:vQ S=(zV S.f).2:=by unfold vQ;rw[Kp];rfl
 have Pm:Ai S= { nm0 with k:=4,tk:=S.tk,vtg:=(zV S.f).1 } :=by unfold Ai;rw[Kp];rfl
 have hok3:NmOk { nm0 with k:=4,tk:=S.tk,vtg:=(zV S.f).1 } :=⟨nm0_ok.g,nm0_ok.r,nm0_ok.s,Ie S.f⟩;have HG:=bK (bO hE Pm);have hT:o7 S=(if vQ S=0 then Ai S else nm0):=D;rw[hE,Pm] at hT;rw[hE];obtain⟨hx,hres,iJ,hb⟩:=yZ w (aI (y7 S A n c).toArray 334) (aI bI 84);have hxr:((w.alloc (aI (y7 S A n c).toArray 334)).alloc (aI bI 84)).rangeAt w.heap.size 0 (y7 S A n c):=tU hx;have HC:=bK (PZ S.tk S.ty A n c B S.f ((w.alloc (aI (y7 S A n c).toArray 334)).alloc (aI bI 84)) hk (h.up (hb.mono hB)) (by omega) hn hl);obtain⟨q,hq⟩: ∃q,q=zV S.f:=⟨_,D⟩;rw[←hq] at HC hT hok3 ⊢;have hQ:=Ie S.f;rw[←hq] at hQ;obtain⟨L,er⟩:=q;simp only at hT hok3 hQ;have HQ:=bK hQ;have HTT:=bK hT;have c0:=bL (i:=0) (v:=aH S.tk) hx D;clear hq hE Pm Kp hk h hl hT hQ HG;go_enter uE,sK;simp only[y7] at*;go_wp2_with fail;go_fit HC.out;rintro e w2 ⟨rfl,hbx⟩;have hx2:=bV hx hbx (bT hx);have dQ:=bV hres hbx (bT hres);have hb2:=eI hb hbx;have d0:=bL (i:=0) (v:=aH S.tk) hx2 D;clear HC hbx hx hres hb c0 hxr;by_cases he:er=0
 case neg=>
  have zZ: ¬(er:Int)=0:=by omega
  have HT:Hid (o7 S=nm0∧True):=bK ⟨by rw[HTT.out,bX he],cM⟩;clear hx2 d0 he;go_wp2_with(with_reducible refine sG [84] ?_);rw[Dc];refine eL (bQ D _ _ _ D (w.heap.size+1) (iE nm0 jH).toArray D D _ _ dQ (eO _ kX) (nL _ kX) (nm0_ok.one _).all ?_);have cS:=bW _ _ _ (iE nm0 jH).toArray _ _ dQ;have hb5:=cB hb2 (iR _) (iE nm0 jH).toArray;simp only[Act.put];repeat go_step
  exact bR (cD D _ _ (w.heap.size+1) _ _ _ _ D cS dJ D (eO _ kX)) D ⟨jH,by rw[HT.out.1];rfl,by rw[HT.out.1];exact rJ _ _ _ D D,fun p hp=>(by rcases hp with hp|hp<;>cases hp),hb5⟩
 have zZ:(er:Int)=0:=by omega
 have HT:Hid (o7 S= { nm0 with k:=4,tk:=S.tk,vtg:=L }):=bK (by rw[HTT.out,bY he]);have HER:=bK he;have hg2:=bT dQ;have HWC:=bK (SG S.tk L HQ.out.1 HQ.out.2 w2);clear he HTT;go_wp2_with fail;go_fit HWC.out;rintro e w3 ⟨rfl,hbx⟩;have hres3:=bV dQ hbx hg2;have hb3:=eI hb2 hbx;have hm:=bS w3 (aI bI 84);have rW:aV w3.heap.size w3 (w3.alloc (aI bI 84)):=(bP _ _).alloc (bM _) _;have fM:=bV hres3 rW (bT hres3);have hb4:=eI hb3 rW;have Cq:=hbx.size;clear dQ hb2 hbx hres3 hb3 hx2 d0 HWC;go_wp2_with(with_reducible refine sG [84] ?_);refine eL (bQ D _ _ _ D w3.heap.size (iE { nm0 with k:=4,tk:=S.tk,vtg:=L } jH).toArray D D _ _ hm (eO _ hok3) (nL _ hok3) (hok3.one _).all ?_);have Kq:NmB _ w3.heap.size { nm0 with k:=4,tk:=S.tk,vtg:=L } jH:=bW _ _ _ (iE { nm0 with k:=4,tk:=S.tk,vtg:=L } jH).toArray _ _ hm;have haw:=dZ (w:=w3.alloc (aI bI 84)) w3.heap.size (iE { nm0 with k:=4,tk:=S.tk,vtg:=L } jH).toArray;have cS:=haw.keep fM (by omega);have hb5:=cJ hb4 haw (fun k hk=>by omega);clear hm haw fM hb4;generalize((w3.alloc (aI bI 84)).setRow w3.heap.size (iE { nm0 with k:=4,tk:=S.tk,vtg:=L } jH).toArray)=w5 at*;go_wp2_with(with_reducible refine sG [84] ?_);refine eL (dI D _ _ D w3.heap.size D _ _ _ _ Kq dJ D (eO _ hok3) ?_);go_wp2_with(with_reducible refine sG [84] ?_);refine eL (bQ D _ _ _ D (w.heap.size+1) (iE { nm0 with k:=4,tk:=S.tk,vtg:=L } jH).toArray D D _ _ cS (eO _ hok3) (nL _ hok3) (hok3.one _).all ?_);have iW:=bW _ _ _ (iE { nm0 with k:=4,tk:=S.tk,vtg:=L } jH).toArray _ _ cS;have hb6:=cB hb5 (iR _) (iE { nm0 with k:=4,tk:=S.tk,vtg:=L } jH).toArray;simp only[Act.put];repeat go_step
 exact bR (cD D _ _ (w.heap.size+1) _ _ _ _ D iW dJ D (eO _ hok3)) D ⟨jH,by rw[HT.out,HER.out];rfl,by rw[HT.out];exact rJ _ _ _ D D,fun p hp=>(by rcases hp with hp|hp<;>cases hp),hb6⟩
theorem SL(S:Cz)(A:Option aW)(n c B:Nat)(w:aS)(hk:sb S.ty= [71,83,86])(h:Rd w B 1 A n c (nY S.f))(hB:B≤w.heap.size)(hn:n≤1000)(hl: ∀s∈S.f,s.size≤1000000):
  aU bH 180 #[aM (y7 S A n c).toArray] w (M1 w (o7 S) (vQ S)):=by
 have Kp:yT S.ty=5:=by unfold yT;rw[hk];rfl
 have hE:vQ S=(xR S.f).2:=by unfold vQ;rw[Kp];rfl
 have Pm:Ai S= { nm0 with k:=5,tk:=S.tk,gsv:=(xR S.f).1 } :=by unfold Ai;rw[Kp];rfl
 have hok3:NmOk { nm0 with k:=5,tk:=S.tk,gsv:=(xR S.f).1 } :=⟨nm0_ok.g,nm0_ok.r,nm0_ok.s,nm0_ok.v⟩;have HG:=bK (bO hE Pm);have hT:o7 S=(if vQ S=0 then Ai S else nm0):=D;rw[hE,Pm] at hT;rw[hE];obtain⟨hx,hres,iJ,hb⟩:=yZ w (aI (y7 S A n c).toArray 334) (aI bI 84);have hxr:((w.alloc (aI (y7 S A n c).toArray 334)).alloc (aI bI 84)).rangeAt w.heap.size 0 (y7 S A n c):=tU hx;have HC:=bK (SH S.tk S.ty A n c B S.f ((w.alloc (aI (y7 S A n c).toArray 334)).alloc (aI bI 84)) hk (h.up (hb.mono hB)) (by omega) hn hl);obtain⟨q,hq⟩: ∃q,q=xR S.f:=⟨_,D⟩;rw[←hq] at HC hT hok3 ⊢;have hQ:=SS S.f;rw[←hq] at hQ;obtain⟨v,er⟩:=q;simp only at hT hok3 hQ;have HQ:=bK hQ;have HTT:=bK hT;have c0:=bL (i:=0) (v:=aH S.tk) hx D;clear hq hE Pm Kp hk h hl hT hQ HG;go_enter uE,sK;simp only[y7] at*;go_wp2_with fail;go_fit HC.out;rintro e w2 ⟨A2,n2,c2,rfl,hr2,tM,hbx⟩;have hx2:=bV hx hbx (bT hx);have dQ:=bV hres hbx (bT hres);have hb2:=eI hb hbx;have d0:=bL (i:=0) (v:=aH S.tk) hx2 D;clear HC hbx hx hres hb c0 hxr;by_cases he:er=0
 case neg=>
  have zZ: ¬(er:Int)=0:=by omega
  have HT:Hid (o7 S=nm0∧True):=bK ⟨by rw[HTT.out,bX he],cM⟩;clear hx2 d0 he;go_wp2_with(with_reducible refine sG [84] ?_);rw[Dc];refine eL (bQ D _ _ _ D (w.heap.size+1) (iE nm0 jH).toArray D D _ _ dQ (eO _ kX) (nL _ kX) (nm0_ok.one _).all ?_);have cS:=bW _ _ _ (iE nm0 jH).toArray _ _ dQ;have hb5:=cB hb2 (iR _) (iE nm0 jH).toArray;simp only[Act.put];repeat go_step
  exact bR (cD D _ _ (w.heap.size+1) _ _ _ _ D cS dJ D (eO _ kX)) D ⟨jH,by rw[HT.out.1];rfl,by rw[HT.out.1];exact rJ _ _ _ D D,fun p hp=>(by rcases hp with hp|hp<;>cases hp),hb5⟩
 have zZ:(er:Int)=0:=by omega
 have HT:Hid (o7 S= { nm0 with k:=5,tk:=S.tk,gsv:=v }):=bK (by rw[HTT.out,bY he]);have HER:=bK he;have hg2:=bT dQ;have HWC:=bK (RZ S.tk v HQ.out A2 n2 c2 w2.heap.size w2 hr2 (bM _) tM);clear he HTT hr2;go_wp2_with fail;go_fit HWC.out;rintro e w3 ⟨a,rfl,hrw,XD,hbx⟩;have hres3:=bV dQ hbx hg2;have hb3:=eI hb2 hbx;have hm:=bS w3 (aI bI 84);have rW:aV w3.heap.size w3 (w3.alloc (aI bI 84)):=(bP _ _).alloc (bM _) _;have fM:=bV hres3 rW (bT hres3);have hb4:=eI hb3 rW;have Cq:=hbx.size;have hr4:=hrw.nx rW;clear dQ hb2 hbx hres3 hb3 hx2 d0 HWC;go_wp2_with(with_reducible refine sG [84] ?_);refine eL (bQ D _ _ _ D w3.heap.size (iE { nm0 with k:=5,tk:=S.tk,gsv:=v } a).toArray D D _ _ hm (eO _ hok3) (nL _ hok3) (hok3.one _).all ?_);have Kq:NmB _ w3.heap.size { nm0 with k:=5,tk:=S.tk,gsv:=v } a:=bW _ _ _ (iE { nm0 with k:=5,tk:=S.tk,gsv:=v } a).toArray _ _ hm;have haw:=dZ (w:=w3.alloc (aI bI 84)) w3.heap.size (iE { nm0 with k:=5,tk:=S.tk,gsv:=v } a).toArray;have cS:=haw.keep fM (by omega);have hb5:=cJ hb4 haw (fun k hk=>by omega);have hr5:=hrw.nx (cB rW (bM _) (iE { nm0 with k:=5,tk:=S.tk,gsv:=v } a).toArray);clear hm haw fM hb4 hr4;generalize((w3.alloc (aI bI 84)).setRow w3.heap.size (iE { nm0 with k:=5,tk:=S.tk,gsv:=v } a).toArray)=w5 at*;go_wp2_with(with_reducible refine sG [84] ?_);refine eL (dI D _ _ D w3.heap.size D _ _ _ _ Kq dJ D (eO _ hok3) ?_);go_wp2_with(with_reducible refine sG [84] ?_);refine eL (bQ D _ _ _ D (w.heap.size+1) (iE { nm0 with k:=5,tk:=S.tk,gsv:=v } a).toArray D D _ _ cS (eO _ hok3) (nL _ hok3) (hok3.one _).all ?_);have iW:=bW _ _ _ (iE { nm0 with k:=5,tk:=S.tk,gsv:=v } a).toArray _ _ cS;have hb6:=cB hb5 (iR _) (iE { nm0 with k:=5,tk:=S.tk,gsv:=v } a).toArray;have hr6:=hr5.aw (dZ (w:=w5) (w.heap.size+1) (iE { nm0 with k:=5,tk:=S.tk,gsv:=v } a).toArray) (fun p hp=>by have:=XD p hp;omega);simp only[Act.put];repeat go_step
 exact bR (cD D _ _ (w.heap.size+1) _ _ _ _ D iW dJ D (eO _ hok3)) D ⟨a,by rw[HT.out,HER.out];rfl,by rw[HT.out];exact hr6,fun p hp=>(by have:=XD p hp;omega),hb6⟩
theorem QZ(tk ty:ByteArray)(A:Option aW)(n c:Nat)(w:aS)(k0: ¬sb ty= [71,71,65])(k1: ¬sb ty= [82,77,67])(k2: ¬sb ty= [71,83,65])(k3: ¬sb ty= [86,84,71])(k4: ¬sb ty= [71,83,86]):
  aU bH 234 #[aM #[aH tk,aH ty,aL A n c]] w fun e w'=>e=aJ (aN #[.nilIface,O Y 6])∧aV w.heap.size w w':=by
 have hb0:aV w.heap.size w (w.alloc (aI #[aH tk,aH ty,aL A n c] 334)):=(bP _ _).alloc (bM _) _;have t0:(ty.toList== [71,71,65])=aD:=lX k0;have t1:(ty.toList== [82,77,67])=aD:=lX k1;have t2:(ty.toList== [71,83,65])=aD:=lX k2;have t3:(ty.toList== [86,84,71])=aD:=lX k3;have t4:(ty.toList== [71,83,86])=aD:=lX k4;clear k0 k1 k2 k3 k4;go_enter uD,sJ;go_wp2;go_ret2;exact⟨D,hb0⟩
theorem Vb(S:Cz)(A:Option aW)(n c B:Nat)(w:aS)(h:Rd w B 1 A n c (nY S.f))(hB:B≤w.heap.size)(hn:n≤1000)(hl: ∀s∈S.f,s.size≤1000000):
  aU bH 180 #[aM (y7 S A n c).toArray] w (M1 w (o7 S) (vQ S)):=by
 by_cases k0:sb S.ty= [71,71,65]
 ·exact QY S A n c B w k0 h hB hn hl
 by_cases k1:sb S.ty= [82,77,67]
 ·exact PH S A n c B w k1 h hB hn hl
 by_cases k2:sb S.ty= [71,83,65]
 ·exact TQ S A n c B w k2 h hB hn hl
 by_cases k3:sb S.ty= [86,84,71]
 ·exact SD S A n c B w k3 h hB hn hl
 by_cases k4:sb S.ty= [71,83,86]
 ·exact SL S A n c B w k4 h hB hn hl
 have Kp:yT S.ty=0:=by unfold yT;rw[bX k0,bX k1,bX k2,bX k3,bX k4]
 have hE:vQ S=6:=by unfold vQ;rw[Kp];rfl
 have hT:o7 S=nm0:=by unfold o7;rw[hE];rfl
 rw[hE];obtain⟨hx,hres,iJ,hb⟩:=yZ w (aI (y7 S A n c).toArray 334) (aI bI 84);have HC:=bK (QZ S.tk S.ty A n c ((w.alloc (aI (y7 S A n c).toArray 334)).alloc (aI bI 84)) k0 k1 k2 k3 k4);have HT:=bK hT;clear hE hT Kp h hl hx k0 k1 k2 k3 k4;go_enter uE,sK;simp only[y7] at*;go_wp2_with fail;go_fit HC.out;rintro e w2 ⟨rfl,hbx⟩;have dQ:=bV hres hbx (bT hres);have hb2:=eI hb hbx;clear HC hbx hres hb;go_wp2_with(with_reducible refine sG [84] ?_);rw[Dc];refine eL (bQ D _ _ _ D (w.heap.size+1) (iE nm0 jH).toArray D D _ _ dQ (eO _ kX) (nL _ kX) (nm0_ok.one _).all ?_);have cS:=bW _ _ _ (iE nm0 jH).toArray _ _ dQ;have hb5:=cB hb2 (iR _) (iE nm0 jH).toArray;simp only[Act.put];repeat go_step
 exact bR (cD D _ _ (w.heap.size+1) _ _ _ _ D cS dJ D (eO _ kX)) D ⟨jH,by rw[HT.out];rfl,by rw[HT.out];exact rJ _ _ _ D D,fun p hp=>(by rcases hp with hp|hp<;>cases hp),hb5⟩
theorem Nu: ∀(l acc:List UInt8),∀x∈vN acc l,x.length≤acc.length+l.length
 | [],acc,x,h=>by simp only[vN,List.mem_singleton] at h;rw[h];simp
 |c::l,acc,x,h=>by
  unfold vN at h;split at h
  ·rcases List.mem_cons.1 h with rfl|h
   ·simp
   ·have:=Nu l [] x h;simp only[hH,dM] at this ⊢;omega
  ·have:=Nu l (acc++ [c]) x h;simp only[cZ,dM,hH] at this ⊢;omega
theorem Uz(t:List UInt8)(ht:t.length≤1000000): ∀s∈(mT t).f,s.size≤1000000:=by
 unfold mT
 repeat' split
 all_goals first|(intro s hs;cases hs;done)|skip
 all_goals
  intro s hs;obtain⟨x,hx,rfl⟩:=List.mem_map.1 hs;have h1:=Nu _ _ x hx;have h2:(K9 x).size=x.length:=by rw[←iI];rfl
  simp only[hH,iA,fH] at h1;omega
theorem FV(S:Cz):NmOk (o7 S):=by
 unfold o7;split
 ·unfold Ai;split
  ·exact⟨Ia S.f,nm0_ok.r,nm0_ok.s,nm0_ok.v⟩
  ·split
   ·exact⟨nm0_ok.g,Hn S.f,nm0_ok.s,nm0_ok.v⟩
   ·split
    ·exact⟨nm0_ok.g,nm0_ok.r,Ic S.f,nm0_ok.v⟩
    ·split
     ·exact⟨nm0_ok.g,nm0_ok.r,nm0_ok.s,Ie S.f⟩
     ·exact⟨nm0_ok.g,nm0_ok.r,nm0_ok.s,nm0_ok.v⟩
 ·exact kX
theorem Of(t:List UInt8):NmOk (Da t):=by
 unfold Da;split
 ·exact FV _
 ·exact kX
def ob(w:aS)(V:En)(N er:Nat)(e:aX)(w':aS):Prop:=
 ∃a,e=aJ (aN #[aM (iE V a).toArray,O Y (N:Int),O Y (er:Int)])∧NmR w' w'.heap.size V a∧(∀p,a.A=aE p∨a.A'=aE p→w.heap.size≤p.block)∧aV w.heap.size w w'
theorem Nk(t:ByteArray)(hz:t.size≤1000)(w:aS):aU bH 142 #[aH t] w (ob w (Da (sb t)) (mT (sb t)).size (Gy (sb t))):=by
 have hres:=bS w (aI bI 84);have hb:aV w.heap.size w (w.alloc (aI bI 84)):=(bP _ _).alloc (bM _) _;have HS:=bK (Re t hz (w.alloc (aI bI 84)));have P6:=Uz (sb t) (by rw[iI];omega);have xr:Gy (sb t)=(if(mT (sb t)).err=0 then vQ (mT (sb t)) else(mT (sb t)).err):=D;have xt:Da (sb t)=(if(mT (sb t)).err=0 then o7 (mT (sb t)) else nm0):=D;have hD3:=Mb (sb t);have fh:=FV (mT (sb t));obtain⟨S,hS⟩: ∃S,S=mT (sb t):=⟨_,D⟩;rw[←hS] at HS P6 xr xt hD3 fh ⊢;obtain⟨DE,Tz⟩: ∃x,x=Gy (sb t):=⟨_,D⟩;obtain⟨DV,Pt⟩: ∃x,x=Da (sb t):=⟨_,D⟩;rw[←Tz] at xr ⊢;rw[←Pt] at xt ⊢;have HE:=bK xr;have HV:=bK xt;have HFL:=bK P6;have HD:=bK hD3;have HOK:=bK fh;clear hS P6 xr xt hD3 fh Tz Pt;go_enter func142,ntmps142;go_wp2_with fail;go_fit HS.out;rintro e w2 ⟨A,n,c,rfl,hr,hf,hn,hbx⟩;have dQ:=bV hres hbx (by simp);have hb2:=eI hb hbx;clear HS hbx hres hb;simp only[y7] at*;have hbs:aV w2.heap.size w2 (w2.alloc (aI #[aH S.tk,aH S.ty,aL A n c] 334)):=(bP _ _).alloc (bM _) _;have hx:=bS w2 (aI #[aH S.tk,aH S.ty,aL A n c] 334);have hres3:=bV dQ hbs (bT dQ);have hb3:=eI hb2 hbs;have Kn:=bT hres3;have hgu:=bT dQ;have hg2:=hbs.size;have HR:=bK (bO (hr.up hbs) hg2);clear dQ hb2 hbs hr;by_cases he:S.err=0
 case neg=>
  have zZ: ¬(S.err:Int)=0:=by omega
  have HN:=bK (bO (HD.out he) he);clear he hx;go_wp2_with(with_reducible refine sG [84] ?_);rw[Dc];refine eL (bQ D _ _ _ D w.heap.size (iE nm0 jH).toArray D D _ _ hres3 (eO _ kX) (nL _ kX) (nm0_ok.one _).all ?_);have cS:=bW _ _ _ (iE nm0 jH).toArray _ _ hres3;have hb5:=cB hb3 (bM _) (iE nm0 jH).toArray;simp only[Act.put];repeat go_step
  exact bR (iC D _ _ w.heap.size _ _ _ _ D cS dJ D (eO _ kX)) D ⟨jH,by rw[HE.out,HV.out,bX HN.out.2,bX HN.out.2,HN.out.1];rfl,by rw[HV.out,bX HN.out.2];exact rJ _ _ _ D D,fun p hp=>(by rcases hp with hp|hp<;>cases hp),hb5⟩
 have zZ:(S.err:Int)=0:=by omega
 have HN:=bK he;have HT:=bK (Vb S A n c w2.heap.size _ HR.out.1 HR.out.2 hn HFL.out);have hxr:=tU (L:= [aH S.tk,aH S.ty,aL A n c]) hx;have x0:=bL (i:=0) (v:=aH S.tk) hx D;have x1:=bL (i:=1) (v:=aH S.ty) hx D;have x2:=bL (i:=2) (v:=aL A n c) hx D;clear he hx;simp only[y7] at*;go_wp2_with fail;go_fit HT.out;rintro e w4 ⟨a,rfl,hrw,XD,hbx⟩;have fM:=bV hres3 hbx (bT hres3);have hb4:=eI hb3 hbx;have hm:=bS w4 (aI bI 84);have rW:aV w4.heap.size w4 (w4.alloc (aI bI 84)):=(bP _ _).alloc (bM _) _;have cS:=bV fM rW (bT fM);have hb5:=eI hb4 rW;have NB:=hbx.size;have hg4:=bT fM;clear x0 x1 x2 hxr hres3 hb3 HT hbx fM hb4;go_wp2_with(with_reducible refine sG [84] ?_);refine eL (bQ D _ _ _ D w4.heap.size (iE (o7 S) a).toArray D D _ _ hm (eO _ HOK.out) (nL _ HOK.out) (HOK.out.one _).all ?_);have Kq:NmB _ w4.heap.size (o7 S) a:=bW _ _ _ (iE (o7 S) a).toArray _ _ hm;have haw:=dZ (w:=w4.alloc (aI bI 84)) w4.heap.size (iE (o7 S) a).toArray;have iW:=haw.keep cS (by omega);have hb6:=cJ hb5 haw (fun k hk=>by omega);have hr6:=hrw.nx (cB rW (bM _) (iE (o7 S) a).toArray);clear hm haw cS hb5 hrw rW;generalize((w4.alloc (aI bI 84)).setRow w4.heap.size (iE (o7 S) a).toArray)=w6 at*;go_wp2_with(with_reducible refine sG [84] ?_);refine eL (dI D _ _ D w4.heap.size D _ _ _ _ Kq dJ D (eO _ HOK.out) ?_);go_wp2_with(with_reducible refine sG [84] ?_);refine eL (bQ D _ _ _ D w.heap.size (iE (o7 S) a).toArray D D _ _ iW (eO _ HOK.out) (nL _ HOK.out) (HOK.out.one _).all ?_);have gQ:=bW _ _ _ (iE (o7 S) a).toArray _ _ iW;have hb7:=cB hb6 (bM _) (iE (o7 S) a).toArray;have hr7:=hr6.aw (dZ (w:=w6) w.heap.size (iE (o7 S) a).toArray) (fun p hp=>by have:=XD p hp;omega);simp only[Act.put];repeat go_step
 exact bR (iC D _ _ w.heap.size _ _ _ _ D gQ dJ D (eO _ HOK.out)) D ⟨a,by rw[HE.out,HV.out,bY HN.out,bY HN.out];rfl,by rw[HV.out,bY HN.out];exact hr7,fun p hp=>(by have:=XD p hp;omega),hb7⟩
end
end Go.Proofs.YtfoabhdppkjmbaaGreat
