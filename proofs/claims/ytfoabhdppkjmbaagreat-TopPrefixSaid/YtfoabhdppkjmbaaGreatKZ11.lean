import Derived.Test.YtfoabhdppkjmbaaGreatKZ10
set_option linter.unusedSimpArgs false
set_option linter.unusedVariables false
set_option maxHeartbeats 6000000
set_option maxRecDepth 20000
namespace Go.Proofs.YtfoabhdppkjmbaaGreat
open Bool renaming false→aD,true→aF
open Go renaming Addr→aW,Calls→aU,Ending→aX,TypeId→aY,Value→aT,World→aS,maxLen→bB
open Go.Ending renaming returned→aJ
open Go.IntKind renaming i64→Y
open Go.Obj renaming cells→aI
open Go.Proofs.Tryz renaming prog→bH
open Go.RowKit renaming Below→aV,intOf→bE
open Go.Value renaming agg→aM,bool→aG,int→O,pointer→aK,slice→aL,string→aH,tuple→aN
open Option renaming none→J,some→aE
open Go.Proofs.Tryz
namespace NumLaw
end NumLaw
section
open Go.RowKit NumLaw
abbrev lZ:=@setRow_size
abbrev uA:=@setRow_other
def TkB(w:aS)(t:aY)(Z:Array aT)(lo g q:Nat)(st:kY)(C:Array aT)(v:aS):Prop:=
 EyB v lo g st∧v.heap[w.heap.size]?=aE (aI Z t)∧v.heap[q]?=aE (aI C t)∧aV w.heap.size w v∧(w.heap.size<lo∧lo≤g∧q≠g∧w.heap.size≤q∧(q<lo∨g<q))
variable {w:World} {t:TypeId} {Z:Array Value} {lo g q:Nat} {st DK:kY} {C:Array Value} {v v':World}
theorem TkB.e(h:TkB w t Z lo g q st C v):EyB v lo g st:=h.1
theorem TkB.l(h:TkB w t Z lo g q st C v):lo≤g:=h.2.2.2.2.2.1
theorem TkB.aw(h:TkB w t Z lo g q st C v)(hE:EyB v' lo g DK)(ha:Aw (fun j=>j=g) v v'):TkB w t Z lo g q DK C v':=by
 obtain⟨h1,h2,h3,h4,h5⟩:=h;exact⟨hE,ha.keep h2 (by omega),ha.keep h3 (by omega),cJ h4 ha (fun k hk=>by omega),h5⟩
theorem TkB.bel(h:TkB w t Z lo g q st C v)(hb:aV v.heap.size v v'):TkB w t Z lo g q st C v':=by
 obtain⟨h1,h2,h3,h4,h5⟩:=h;exact⟨h1.below hb h5.2.1,bV h2 hb (bT h2),bV h3 hb (bT h3),eI h4 hb,h5⟩
theorem TkB.oth{r:Nat}(h:TkB w t Z lo g q st C v)(ha:Aw (fun j=>j=r) v v')(hr:g<r∧r≠q):TkB w t Z lo g q st C v':=by
 obtain⟨h1,h2,h3,h4,h5⟩:=h;exact⟨h1.keep ha (fun k hk=>by omega) h5.2.1,ha.keep h2 (by omega),ha.keep h3 (by omega),cJ h4 ha (fun k hk=>by omega),h5⟩
theorem TkB.new(h:TkB w t Z lo g q st C v)(C':Array aT):TkB w t Z lo g v.heap.size st C' (v.alloc (aI C' t)):=by
 have hb:aV v.heap.size v (v.alloc (aI C' t)):=(bP _ _).alloc (bM _) _;have h':=h.bel hb;have hg:=h.1.lt;obtain⟨h1,h2,h3,h4,h5⟩:=h';exact⟨h1,h2,bS _ _,h4,h5.1,h5.2.1,by omega,by omega,.inr hg⟩
theorem TkB.set(h:TkB w t Z lo g q st C v)(hq:g<q)(i:Nat)(x:aT):TkB w t Z lo g q st (C.setIfInBounds i x) (v.setCell ⟨q,i,J⟩ x):=by
 obtain⟨h1,h2,h3,h4,h5⟩:=h;have ha:Aw (fun j=>j=q) v (v.setCell ⟨q,i,J⟩ x):=(cY _ v).set (p:=⟨q,i,J⟩) x D;exact⟨h1.keep ha (fun k hk=>by omega) h5.2.1,ha.keep h2 (by omega),cN (i:=i) h3 x,cJ h4 ha (fun k hk=>by omega),h5⟩
theorem TkB.cell{i:Nat}{x:aT}(h:TkB w t Z lo g q st C v)(hi:C[i]?=aE x):v.cell? ⟨q,i,J⟩=aE x:=bL (i:=i) h.2.2.1 hi
theorem TkB.free(h:TkB w t Z lo g q st C v)(i:Nat):v.frozen? ⟨q,i,J⟩=aD:=bZ (i:=i) h.2.2.1
theorem TkB.set2(h:TkB w t Z lo g q st C v)(hq:g<q)(i:Nat)(x y:aT)(C':Array aT)(hC:(C.setIfInBounds i x).setIfInBounds (i+1) y=C'):TkB w t Z lo g q st C' ((v.setCell ⟨q,i,J⟩ x).setCell ⟨q,i+1,J⟩ y):=by
 rw[←hC];exact(h.set hq i x).set hq (i+1) y
theorem TkB.set1(h:TkB w t Z lo g q st C v)(hq:g<q)(i:Nat)(x:aT)(C':Array aT)(hC:C.setIfInBounds i x=C'):TkB w t Z lo g q st C' (v.setCell ⟨q,i,J⟩ x):=by
 rw[←hC];exact h.set hq i x
theorem dZ{w:aS}(g:Nat)(cs:Array aT):Aw (fun k=>k=g) w (w.setRow g cs):=
 ⟨D,D,D,by rw[lZ];exact bM _,fun k _ hk=>uA w g k cs hk⟩
theorem sM{w:aS}(q i:Nat)(x y:aT):Aw (fun k=>k=q) w ((w.setCell ⟨q,i,J⟩ x).setCell ⟨q,i+1,J⟩ y):=
 ((cY (fun k=>k=q) w).set (p:=⟨q,i,J⟩) x D).set (p:=⟨q,i+1,J⟩) y D
theorem yP(c:uX)(hc:uR c)(hE:EyB v lo g st)(hlo:lo≤g)(hk:EyOk st): ∃(b:Bool) (n:Int) (s:kY),Hid (gT c st=(⟨b,n⟩,s))∧EyOk s∧
  Hid (aU bH 318 #[aK (aE ⟨g,0,J⟩),aM (L6 c).toArray] v (e8 v lo g (aM #[aG b,O Y n]) s)):=
 ⟨_,_,_,bK D,hk.num c,bK (pT c hc lo g st v hE hlo hk)⟩
theorem SW(hE:EyB v lo g st)(hlo:lo≤g)(hk:EyOk st): ∃(x:ByteArray) (s:kY),Hid (jA st=(x,s))∧EyOk s∧
  Hid (aU bH 334 #[aK (aE ⟨g,0,J⟩)] v (e8 v lo g (aH x) s)):=
 ⟨_,_,bK D,hk.text.2,bK (kA lo g st v hE hlo)⟩
end
section
open Go.RowKit NumLaw
attribute [local go_sem] Addr.add_mid
attribute [-go_sem] run_eql_struct run_neq_struct
abbrev gX:=@run_equalIn_int
abbrev gY:=@run_equalIn_agg
abbrev jC:=@underlying82
abbrev kF:=@run_equalIn_bool'
abbrev mB:=@run_eql_struct
theorem vG{w w':aS}{base:Nat}{e:aY}{size n:Nat}{v:aT}{xs:List aT}{U:Nat→Prop}(h:w.ownsRow base e size v n xs)(ha:Aw U w w')(hU: ∀j,v.ownBlock=aE j→¬U j):w'.ownsRow base e size v n xs:=by
 refine⟨h.1,?_⟩;rcases h.2 with h2|⟨g,cap,cur,hv,hg,hh,r⟩
 ·exact .inl h2
 ·exact .inr ⟨g,cap,cur,hv,hg,ha.keep hh (hU g (by rw[hv];rfl)),r⟩
theorem AY{w w':aS}{v:aT}(h:w.grownBy w' v.ownBlock):Aw (fun j=>v.ownBlock=aE j) w w':=⟨h.os,h.tape,h.output,h.size,fun k hk hn=>h.block k hk (fun e=>hn e.symm)⟩
theorem TkB.othU{w v v':aS}{t:aY}{Z C:Array aT}{lo g q:Nat}{st:kY}{U:Nat→Prop}(h:TkB w t Z lo g q st C v)(ha:Aw U v v')(hU: ∀k,U k→g<k∧k≠q):TkB w t Z lo g q st C v':=by
 obtain⟨h1,h2,h3,h4,h5⟩:=h;exact⟨h1.keep ha (fun k hk=> .inr (hU k hk).1) h5.2.1,ha.keep h2 (fun hk=>by have:=hU _ hk;omega),ha.keep h3 (fun hk=>(hU _ hk).2 D),cJ h4 ha (fun k hk=>by have:=hU k hk;omega),h5⟩
theorem Hh(st:kY):(jA st).2.2.length=st.2.length-1:=by
 unfold jA;split
 ·rename_i h;rw[h];rfl
 ·rename_i h;rw[h];rfl
theorem zM(c:uX)(st:kY):(gT c st).2.2.length=st.2.length-1:=Hh st
theorem L4(a b:Int)(st:kY):(kD a b st).2.2.length=st.2.length-1:=by
 unfold kD;split
 ·exact Hh st
 ·split
  ·exact Hh st
  ·exact Hh st
theorem LF(a b:Int)(st:kY):0≤(kD a b st).1∧(kD a b st).1≤9:=by
 have hd: ∀s n,Kx s=aE n→n≤9:=by
  intro s n h;unfold Kx at h;split at h
  ·split at h
   ·rename_i c hs hc;injection h with h;unfold Jd at hc;simp at hc;omega
   ·cases h
  ·cases h
 unfold kD;split
 ·simp
 ·rename_i n hn;have:=hd _ _ hn;simp only;omega
def Gl(v:Oe)(A:Option aW)(n c:Nat):List aT:= [O Y v.total,O Y v.no,O Y v.seen,aL A n c]
def ak(w:aS)(q:Oe × Nat)(e:aX)(w':aS):Prop:=
 ∃A n c,e=aJ (aN #[aM (Gl q.1 A n c).toArray,O Y (q.2:Int)])∧RdR w' w'.heap.size 8 A n c q.1.l∧(∀p,A=aE p→w.heap.size≤p.block)∧n≤4∧aV w.heap.size w w'
theorem RS(b:Bool)(n:Int)(w:aS):(binOp .eql 69 (aM #[aG b,O Y n]) (aM #[aG aD,O Y 0])).run bH w= .ok (aG (decide (b=aD∧n=0))) w:=by
 rw[mB,gY w 9999 _ _ _ (by simp only[Program.fieldsOf,cK]) (by kernel_rfl)];cases b<;>by_cases h:n=0<;>simp[Program.fieldsOf,cK,Op.eqFields,part,gX w _ _ _ _ _ _ cO,kF w _ _ _ _ eM,h]
def D8(g:Nat)(w:aS):Nat:=match w.cell? ⟨g,2,J⟩ with
 |some (aL _ n _)=>n
 |_=>0
theorem Lx{w:aS}{lo g:Nat}{st:kY}(h:EyB w lo g st):D8 g w=st.2.length:=by
 obtain⟨A,n,c,hg,hr,hl,hn⟩:=h;have hln:st.2.length=n:=by have:=hr.len;simpa [nY] using this
 have c2:w.cell? ⟨g,2,J⟩=aE (aL A n c):=bL (i:=2) hg D;unfold D8;rw[c2,hln]
theorem BF(f:Nat)(st:kY)(h:st.2= []):lM f st=([],st):=by
 cases f with
 |zero=>rfl
 |succ f=>unfold lM;rw[bY h]
theorem ZU(N:Nat)(s:kY):lM N s=([]++(lM (N-0) s).1,(lM (N-0) s).2):=rfl
theorem Ly:(Tryz.prog.info? 289).map (fun i=>(i.zero,i.size,i.bytes))=aE (aE (aM #[aG aD,O Y 0,aG aD,O Y 0,aG aD,O Y 0,aG aD,O Y 0]),8,64):=by kernel_rfl
theorem Sl(A:Option aW)(n c B:Nat)(l:List ByteArray)(w:aS)(h:Rd w B 1 A n c (nY l))(hB:B≤w.heap.size)(hn:n≤1000)(hl: ∀s∈l,s.size≤1000000):
  aU bH 281 #[aL A n c] w (ak w (xR l)):=by
 have oJ:l.length=n:=by have:=h.len;simpa [nY] using this
 have hres:=bS w (aI #[O Y 0,O Y 0,O Y 0,aL J 0 0] 82);have hb0:aV w.heap.size w (w.alloc (aI #[O Y 0,O Y 0,O Y 0,aL J 0 0] 82)):=(bP _ _).alloc (bM _) _;by_cases h3:n<3
 ·have i1:(n:Int)-3<0:=by omega
  have HR:Hid (xR l=(cb,3)):=bK (by unfold xR;rw[bX (by omega)]);clear h h3 oJ;go_enter func281,ntmps281;go_wp2_with(with_reducible refine sG [82] ?_);refine eL (bQ D _ _ _ D w.heap.size #[O Y 0,O Y 0,O Y 0,aL J 0 0] D D _ _ hres (by kernel_rfl) D (by kernel_rfl) ?_);have cS:=bW _ _ _ (#[O Y 0,O Y 0,O Y 0,aL J 0 0]:Array aT) _ _ hres;have hb5:=cB hb0 (bM _) (#[O Y 0,O Y 0,O Y 0,aL J 0 0]:Array aT);generalize((w.alloc (aI #[O Y 0,O Y 0,O Y 0,aL J 0 0] 82)).setRow w.heap.size #[O Y 0,O Y 0,O Y 0,aL J 0 0])=v5 at*;go_wp2;exact bR (cD D _ _ w.heap.size _ _ _ _ D cS jC D (by kernel_rfl)) D ⟨J,0,0,by rw[HR.out];rfl,by rw[HR.out];exact kR _ _ _,fun p hp=>(by cases hp),by omega,hb5⟩
 obtain⟨M,rfl⟩: ∃M,n=M+3:=⟨n-3,by omega⟩;have e3:((M+3:Nat):Int)-3=(M:Int):=by omega
 have i1: ¬(M:Int)<0:=by omega
 by_cases h4:M % 4=0
 case neg=>
  have i2: ¬(M:Int)% 4=0:=by omega
  have HR:Hid (xR l=(cb,3)):=bK (by unfold xR;rw[bX (by omega)]);clear h h4 oJ;go_enter func281,ntmps281;go_wp2_with(with_reducible refine sG [82] ?_);refine eL (bQ D _ _ _ D w.heap.size #[O Y 0,O Y 0,O Y 0,aL J 0 0] D D _ _ hres (by kernel_rfl) D (by kernel_rfl) ?_);have cS:=bW _ _ _ (#[O Y 0,O Y 0,O Y 0,aL J 0 0]:Array aT) _ _ hres;have hb5:=cB hb0 (bM _) (#[O Y 0,O Y 0,O Y 0,aL J 0 0]:Array aT);generalize((w.alloc (aI #[O Y 0,O Y 0,O Y 0,aL J 0 0] 82)).setRow w.heap.size #[O Y 0,O Y 0,O Y 0,aL J 0 0])=v5 at*;go_wp2;exact bR (cD D _ _ w.heap.size _ _ _ _ D cS jC D (by kernel_rfl)) D ⟨J,0,0,by rw[HR.out];rfl,by rw[HR.out];exact kR _ _ _,fun p hp=>(by cases hp),by omega,hb5⟩
 by_cases h5:M/4≤4
 case neg=>
  have i2:(M:Int)% 4=0:=by omega
  have i3:(4:Int)<(M:Int)/4:=by omega
  have HR:Hid (xR l=(cb,3)):=bK (by unfold xR;rw[bX (by omega)]);clear h h5 oJ;go_enter func281,ntmps281;go_wp2_with(with_reducible refine sG [82] ?_);refine eL (bQ D _ _ _ D w.heap.size #[O Y 0,O Y 0,O Y 0,aL J 0 0] D D _ _ hres (by kernel_rfl) D (by kernel_rfl) ?_);have cS:=bW _ _ _ (#[O Y 0,O Y 0,O Y 0,aL J 0 0]:Array aT) _ _ hres;have hb5:=cB hb0 (bM _) (#[O Y 0,O Y 0,O Y 0,aL J 0 0]:Array aT);generalize((w.alloc (aI #[O Y 0,O Y 0,O Y 0,aL J 0 0] 82)).setRow w.heap.size #[O Y 0,O Y 0,O Y 0,aL J 0 0])=v5 at*;go_wp2;exact bR (cD D _ _ w.heap.size _ _ _ _ D cS jC D (by kernel_rfl)) D ⟨J,0,0,by rw[HR.out];rfl,by rw[HR.out];exact kR _ _ _,fun p hp=>(by cases hp),by omega,hb5⟩
 obtain⟨aB,rfl⟩: ∃aB,M=4*aB:=⟨M/4,by omega⟩;have hJ:aB≤4:=by omega
 have i2:((4*aB:Nat):Int)% 4=0:=by omega
 have i3: ¬(4:Int)<((4*aB:Nat):Int)/4:=by omega
 have hL:=xN A (4*aB+3) c B l (w.alloc (aI #[O Y 0,O Y 0,O Y 0,aL J 0 0] 82)) (h.up (hb0.mono hB)) (bU hB hb0.size) (by omega);unfold Lz at hL;have HL:=bK hL;have HRES:=bK hres;have hok:EyOk (0,l):=fun s hs=>hl s hs;have HV:Hid (xR l=(if(K7 l).2=0 then(K7 l).1 else cb,(K7 l).2)):=bK (by unfold xR;rw[bY (by omega)]);have HLL:=bK oJ;clear hL hres h oJ hl h3 h4 h5;go_enter func281,ntmps281;go_wp2_with fail;go_fit HL.out;rintro e v ⟨g,rfl,hE,oU,J8,hb⟩;have hT:TkB w 82 #[O Y 0,O Y 0,O Y 0,aL J 0 0] (w.heap.size+1) g w.heap.size (0,l) #[O Y 0,O Y 0,O Y 0,aL J 0 0] v:=by have hs:(w.alloc (aI #[O Y 0,O Y 0,O Y 0,aL J 0 0] 82)).heap.size=w.heap.size+1:=cL _ _;rw[hs] at hE oU;have hr:=bV HRES.out hb (by simp);exact⟨hE,hr,hr,eI hb0 hb,by omega,by omega,by omega,by omega,.inl (by omega)⟩
 clear HRES HL hb hb0 hE oU J8 i1 i2 i3 e3;obtain⟨s0,wT⟩: ∃s0,s0=((0,l):kY):=⟨_,D⟩;rw[←wT] at hT hok;have Q0:=bK wT;clear wT;have yN:=hT.e.lt;have HT:=bK (hT.new #[O Y 0,O Y 0,O Y 0,aL J 0 0]);clear hT;go_wp2_with fail;have hT:=HT.out;clear HT;obtain⟨gm,yV⟩: ∃gm,gm=v.heap.size:=⟨_,D⟩;rw[←yV] at hT yN ⊢;generalize(v.alloc (aI #[O Y 0,O Y 0,O Y 0,aL J 0 0] 82))=v0 at*;clear yV;obtain⟨⟨n1,s1⟩,hq⟩: ∃q,q=kD 1 9 s0:=⟨_,D⟩;have hC:=Cl 9 _ g s0 _ hT.e hT.l ⟨by omega,by omega⟩;have hok1:EyOk s1:=by have:=hok.dig 1 9;rw[←hq] at this;exact this
 have wC:=LF 1 9 s0;rw[←hq] at hC wC;have Q1:=bK hq;simp only at hC wC;have HC:=bK hC;clear hq hC hok;go_fit HC.out;rintro e v1 ⟨rfl,hE',ha'⟩;replace hT:=hT.aw hE' ha';clear hE' ha' HC;have c0:=hT.cell (i:=0) D;have f0:=hT.free 0;have HT:=bK (hT.set1 yN 0 (O Y n1) #[O Y n1,O Y 0,O Y 0,aL J 0 0] D);clear hT;go_wp2_with fail;have hT:=HT.out;clear HT c0 f0;generalize(v1.setCell ⟨gm,0,J⟩ (O Y n1))=v2 at*;obtain⟨⟨n2,s2⟩,hq⟩: ∃q,q=kD 1 n1 s1:=⟨_,D⟩;have hC:=Cl n1 _ g s1 _ hT.e hT.l wC;have xU:EyOk s2:=by have:=hok1.dig 1 n1;rw[←hq] at this;exact this
 rw[←hq] at hC;have Q2:=bK hq;simp only at hC;have HC:=bK hC;clear hq hC hok1 wC;go_fit HC.out;rintro e v3 ⟨rfl,hE',ha'⟩;replace hT:=hT.aw hE' ha';clear hE' ha' HC;have c1:=hT.cell (i:=1) D;have f1:=hT.free 1;have HT:=bK (hT.set1 yN 1 (O Y n2) #[O Y n1,O Y n2,O Y 0,aL J 0 0] D);clear hT;go_wp2_with fail;have hT:=HT.out;clear HT c1 f1;generalize(v3.setCell ⟨gm,1,J⟩ (O Y n2))=v4 at*;go_fit(O5 _);rintro e v5 ⟨rfl,hb'⟩;replace hT:=hT.bel hb';clear hb';obtain⟨b3,n3,s3,Q3,hok3,hC⟩:=yP yK Jg hT.e hT.l xU;go_wp2_with fail;go_fit hC.out;rintro e v6 ⟨rfl,hE',ha'⟩;replace hT:=hT.aw hE' ha';clear hE' ha' hC xU;have de:s3.2.length=4*aB:=by have e1:=zM yK s2;rw[Q3.out] at e1;have e2:=L4 1 n1 s1;rw[←Q2.out] at e2;have e3:=L4 1 9 s0;rw[←Q1.out,Q0.out] at e3;have:=HLL.out;simp only at e1 e2 e3;omega
 obtain⟨d,hd⟩: ∃d,d=(if b3=aD∧n3=0 then tP s3 3 else s3):=⟨_,D⟩;have aBh:EyOk d:=by rw[hd];split<;>exact hok3
 have hld:d.2.length=4*aB:=by rw[hd];split<;>exact de
 have hbx:aV v6.heap.size v6 (v6.alloc (aI #[aG b3,O Y n3] 69)):=(bP _ _).alloc (bM _) _;have Y3:=bS v6 (aI #[aG b3,O Y n3] 69);have hg6:=hT.e.lt;replace hT:=hT.bel hbx;clear hbx;have heq:=fun w=>RS b3 n3 w;obtain⟨r,hr⟩: ∃r,r=decide (b3=aD∧n3=0):=⟨_,D⟩;rw[←hr] at heq;have hd2:d=if r=aF then tP s3 3 else s3:=by rw[hd,hr];simp
 have HD:=bK hd2;have x0:=bL (i:=0) (v:=aG b3) Y3 D;have x1:=bL (i:=1) (v:=O Y n3) Y3 D;have HDD:=bK hd;clear hd hr hd2;have HF:=bK (jL _ g 3 s3 _ hT.e hT.l);have HX:=bK Y3;clear x0;cases r
 case' true=>
  go_wp2_with fail;go_fit HF.out;rintro e v7 ⟨rfl,hE',ha'⟩;have hT':=hT.aw hE' ha';have Y3:=ha'.keep HX.out (by omega);have hD:tP s3 3=d:=by have:=HD.out;simpa using this.symm
  rw[hD] at hT';clear hT hE' ha' hD x1 HF HX heq;have x1:=bL (i:=1) (v:=O Y n3) Y3 D;have c2:=hT'.cell (i:=2) D;have f2:=hT'.free 2;have HT:=bK (hT'.set1 yN 2 (O Y n3) #[O Y n1,O Y n2,O Y n3,aL J 0 0] D);clear hT' Y3;go_wp2_with fail
 case' false=>
  have hD:s3=d:=by have:=HD.out;simpa using this.symm
  have c2:=hT.cell (i:=2) D;have f2:=hT.free 2;rw[hD] at hT;have HT:=bK (hT.set1 yN 2 (O Y n3) #[O Y n1,O Y n2,O Y n3,aL J 0 0] D);clear hT hD HF HX;go_wp2_with fail;generalize(v6.alloc (aI #[aG b3,O Y n3] 69))=v7 at*;clear heq
 all_goals
  have hT:=HT.out;clear HT c2 f2 x1 HD;generalize(v7.setCell ⟨gm,2,J⟩ (O Y n3))=v8 at*;obtain⟨i0,hvi⟩:=eW Ly;have HVI:=bK hvi;clear hvi;go_loopw [] (fun wr=> ∃(k c3:Nat) (A3:Option aW) (st:kY) (X:List (List aT)),k≤aB∧TkB w 82 #[O Y 0,O Y 0,O Y 0,aL J 0 0] (w.heap.size+1) g gm st #[O Y n1,O Y n2,O Y n3,aL A3 k c3] wr∧wr.ownsRow (gm+1) 289 8 (aL A3 k c3) k X.flatten∧EyOk st∧Hid (st.2.length=4*(aB-k)∧X.length=k∧(∀x∈X,x.length=8)∧lM 4 d=(X++(lM (4-k) st).1,(lM (4-k) st).2))) (fun wr=>D8 g wr);case atStart=>exact⟨0,0,J,d,[],by omega,hT,dF _ _ _ _,aBh,bK ⟨hld,D,by simp,ZU 4 d⟩⟩
  case round=>
   clear hT;obtain⟨k,c3,A3,st,X,hk,hT,own,hok,HX⟩:=hrel;have aIn:=hT.1.lt;by_cases hkJ:k<aB
   ·have oy:(0:Int)<(st.2.length:Int):=by have:=HX.out.1;omega
    have hLf:=bK (j9 _ g st _ hT.e);obtain⟨gv,Ln⟩: ∃gv,gv=wr.heap.size:=⟨_,D⟩;have hbx:aV wr.heap.size wr (wr.alloc (aI #[aG aD,O Y 0,aG aD,O Y 0,aG aD,O Y 0,aG aD,O Y 0] 289)):=(bP _ _).alloc (bM _) _;have hT1:=hT.bel hbx;have sB:=jK own hbx (bM _);have Cp:=bS wr (aI #[aG aD,O Y 0,aG aD,O Y 0,aG aD,O Y 0,aG aD,O Y 0] 289);have HJ: ∀j,(Value.slice A3 k c3).ownBlock=aE j→gm+1≤j∧j<gv:=fun j hj=>by rw[Ln];exact eU own hj
    have aIo:gm<gv:=by rw[Ln];exact bT hT.2.2.1
    have HM:=bK (Lx hT.e);rw[←Ln] at Cp;have HG:=bK Ln;clear hT own hbx Ln;go_wp2_with fail;go_fit hLf.out;rintro e wr' ⟨rfl,rfl⟩;clear hLf;go_wp2_with fail;rw[←HG.out];generalize(wr.alloc (aI #[aG aD,O Y 0,aG aD,O Y 0,aG aD,O Y 0,aG aD,O Y 0] 289))=y0 at*;go_fit(Ud _);rintro e ya0 ⟨rfl,hb'⟩;have hT2:=hT1.bel hb';have wF:=jK sB hb' (bM _);have Ez:=bV Cp hb' (bT Cp);clear hT1 sB Cp hb';obtain⟨b4,m4,z0,Q4,rf,hC⟩:=yP BH JS hT2.e hT2.l hok;go_wp2_with fail;go_fit hC.out;rintro e yb0 ⟨rfl,hE',ha'⟩;have hT3:=hT2.aw hE' ha';have mM:=vG wF ha' (fun j hj h=>by have:=HJ j hj;omega);have zD:=ha'.keep Ez (by omega);clear hT2 wF Ez hE' ha' hC;have p0:=bL (i:=0) (v:=aG aD) zD D;have p1:=bL (i:=1) (v:=O Y 0) zD D;have p2:=bZ (i:=0) zD;have p3:=bZ (i:=1) zD;have hT4:=hT3.othU (sM gv 0 (aG b4) (O Y m4)) (fun k hk=>by omega);have vD:=vG mM (sM gv 0 (aG b4) (O Y m4)) (fun j hj h=>by have:=HJ j hj;omega);have M9:=cN (i:=1) (cN (i:=0) zD (aG b4)) (O Y m4);simp only[cE,cW,cX] at M9;have HY:Hid (TkB w 82 #[O Y 0,O Y 0,O Y 0,aL J 0 0] (w.heap.size+1) g gm z0 #[O Y n1,O Y n2,O Y n3,aL A3 k c3] ((yb0.setCell ⟨gv,0,J⟩ (aG b4)).setCell ⟨gv,1,J⟩ (O Y m4))∧((yb0.setCell ⟨gv,0,J⟩ (aG b4)).setCell ⟨gv,1,J⟩ (O Y m4)).ownsRow (gm+1) 289 8 (aL A3 k c3) k X.flatten∧_):=bK ⟨hT4,vD,M9⟩;clear hT3 mM zD hT4 vD M9;go_wp2_with fail;obtain⟨hT1,sB,Cp⟩:=HY.out;clear HY p0 p1 p2 p3;generalize((yb0.setCell ⟨gv,0,J⟩ (aG b4)).setCell ⟨gv,1,J⟩ (O Y m4))=y1 at*;go_fit(Om _);rintro e ya1 ⟨rfl,hb'⟩;have hT2:=hT1.bel hb';have wF:=jK sB hb' (bM _);have Ez:=bV Cp hb' (bT Cp);clear hT1 sB Cp hb';obtain⟨b5,m5,z1,Q5,rh,hC⟩:=yP S0 II hT2.e hT2.l rf;go_wp2_with fail;go_fit hC.out;rintro e yb1 ⟨rfl,hE',ha'⟩;have hT3:=hT2.aw hE' ha';have mM:=vG wF ha' (fun j hj h=>by have:=HJ j hj;omega);have zD:=ha'.keep Ez (by omega);clear hT2 wF Ez hE' ha' hC;have p0:=bL (i:=2) (v:=aG aD) zD D;have p1:=bL (i:=3) (v:=O Y 0) zD D;have p2:=bZ (i:=2) zD;have p3:=bZ (i:=3) zD;have hT4:=hT3.othU (sM gv 2 (aG b5) (O Y m5)) (fun k hk=>by omega);have vD:=vG mM (sM gv 2 (aG b5) (O Y m5)) (fun j hj h=>by have:=HJ j hj;omega)
    have M9:=cN (i:=3) (cN (i:=2) zD (aG b5)) (O Y m5);simp only[cE,cW,cX] at M9;have HY:Hid (TkB w 82 #[O Y 0,O Y 0,O Y 0,aL J 0 0] (w.heap.size+1) g gm z1 #[O Y n1,O Y n2,O Y n3,aL A3 k c3] ((yb1.setCell ⟨gv,2,J⟩ (aG b5)).setCell ⟨gv,3,J⟩ (O Y m5))∧((yb1.setCell ⟨gv,2,J⟩ (aG b5)).setCell ⟨gv,3,J⟩ (O Y m5)).ownsRow (gm+1) 289 8 (aL A3 k c3) k X.flatten∧_):=bK ⟨hT4,vD,M9⟩;clear hT3 mM zD hT4 vD M9;go_wp2_with fail;obtain⟨hT1,sB,Cp⟩:=HY.out;clear HY p0 p1 p2 p3;generalize((yb1.setCell ⟨gv,2,J⟩ (aG b5)).setCell ⟨gv,3,J⟩ (O Y m5))=y2 at*;go_fit(Oi _);rintro e ya2 ⟨rfl,hb'⟩;have hT2:=hT1.bel hb';have wF:=jK sB hb' (bM _);have Ez:=bV Cp hb' (bT Cp);clear hT1 sB Cp hb';obtain⟨b6,m6,z2,Q6,ri,hC⟩:=yP Rk GS hT2.e hT2.l rh;go_wp2_with fail;go_fit hC.out;rintro e yb2 ⟨rfl,hE',ha'⟩;have hT3:=hT2.aw hE' ha';have mM:=vG wF ha' (fun j hj h=>by have:=HJ j hj;omega);have zD:=ha'.keep Ez (by omega);clear hT2 wF Ez hE' ha' hC;have p0:=bL (i:=4) (v:=aG aD) zD D;have p1:=bL (i:=5) (v:=O Y 0) zD D;have p2:=bZ (i:=4) zD;have p3:=bZ (i:=5) zD;have hT4:=hT3.othU (sM gv 4 (aG b6) (O Y m6)) (fun k hk=>by omega);have vD:=vG mM (sM gv 4 (aG b6) (O Y m6)) (fun j hj h=>by have:=HJ j hj;omega);have M9:=cN (i:=5) (cN (i:=4) zD (aG b6)) (O Y m6);simp only[cE,cW,cX] at M9;have HY:Hid (TkB w 82 #[O Y 0,O Y 0,O Y 0,aL J 0 0] (w.heap.size+1) g gm z2 #[O Y n1,O Y n2,O Y n3,aL A3 k c3] ((yb2.setCell ⟨gv,4,J⟩ (aG b6)).setCell ⟨gv,5,J⟩ (O Y m6))∧((yb2.setCell ⟨gv,4,J⟩ (aG b6)).setCell ⟨gv,5,J⟩ (O Y m6)).ownsRow (gm+1) 289 8 (aL A3 k c3) k X.flatten∧_):=bK ⟨hT4,vD,M9⟩;clear hT3 mM zD hT4 vD M9;go_wp2_with fail;obtain⟨hT1,sB,Cp⟩:=HY.out;clear HY p0 p1 p2 p3;generalize((yb2.setCell ⟨gv,4,J⟩ (aG b6)).setCell ⟨gv,5,J⟩ (O Y m6))=y3 at*;go_fit(Lh _);rintro e ya3 ⟨rfl,hb'⟩;have hT2:=hT1.bel hb';have wF:=jK sB hb' (bM _);have Ez:=bV Cp hb' (bT Cp);clear hT1 sB Cp hb';obtain⟨b7,m7,z3,Q7,rj,hC⟩:=yP yK Jg hT2.e hT2.l ri;go_wp2_with fail;go_fit hC.out;rintro e yb3 ⟨rfl,hE',ha'⟩;have hT3:=hT2.aw hE' ha';have mM:=vG wF ha' (fun j hj h=>by have:=HJ j hj;omega)
    have zD:=ha'.keep Ez (by omega);clear hT2 wF Ez hE' ha' hC;have p0:=bL (i:=6) (v:=aG aD) zD D;have p1:=bL (i:=7) (v:=O Y 0) zD D;have p2:=bZ (i:=6) zD;have p3:=bZ (i:=7) zD;have hT4:=hT3.othU (sM gv 6 (aG b7) (O Y m7)) (fun k hk=>by omega);have vD:=vG mM (sM gv 6 (aG b7) (O Y m7)) (fun j hj h=>by have:=HJ j hj;omega);have M9:=cN (i:=7) (cN (i:=6) zD (aG b7)) (O Y m7);simp only[cE,cW,cX] at M9;have HY:Hid (TkB w 82 #[O Y 0,O Y 0,O Y 0,aL J 0 0] (w.heap.size+1) g gm z3 #[O Y n1,O Y n2,O Y n3,aL A3 k c3] ((yb3.setCell ⟨gv,6,J⟩ (aG b7)).setCell ⟨gv,7,J⟩ (O Y m7))∧((yb3.setCell ⟨gv,6,J⟩ (aG b7)).setCell ⟨gv,7,J⟩ (O Y m7)).ownsRow (gm+1) 289 8 (aL A3 k c3) k X.flatten∧_):=bK ⟨hT4,vD,M9⟩;clear hT3 mM zD hT4 vD M9;go_wp2_with(with_reducible refine sG [80] ?_);obtain⟨hT1,sB,Cp⟩:=HY.out;clear HY p0 p1 p2 p3;generalize((yb3.setCell ⟨gv,6,J⟩ (aG b7)).setCell ⟨gv,7,J⟩ (O Y m7))=y4 at*;have q3:=hT1.cell (i:=3) D;have q10:=bL (i:=0) (v:=aG b4) Cp D;have q11:=bL (i:=1) (v:=O Y m4) Cp D;have q12:=bL (i:=2) (v:=aG b5) Cp D;have q13:=bL (i:=3) (v:=O Y m5) Cp D;have q14:=bL (i:=4) (v:=aG b6) Cp D;have q15:=bL (i:=5) (v:=O Y m6) Cp D;have q16:=bL (i:=6) (v:=aG b7) Cp D;have q17:=bL (i:=7) (v:=O Y m7) Cp D;have hbn:aV y4.heap.size y4 (y4.alloc (aI #[aG b4,O Y m4,aG b5,O Y m5,aG b6,O Y m6,aG b7,O Y m7] 289)):=(bP _ _).alloc (bM _) _;have hT5:=hT1.bel hbn;have rA:=jK sB hbn (bM _);have hrd:Rd _ _ 8 _ 1 1 [aG b4,O Y m4,aG b5,O Y m5,aG b6,O Y m6,aG b7,O Y m7]:=yX (sQ (size:=8) (e:=289) y4 [[aG b4,O Y m4,aG b5,O Y m5,aG b6,O Y m6,aG b7,O Y m7]] #[aG b4,O Y m4,aG b5,O Y m5,aG b6,O Y m6,aG b7,O Y m7] D (by intro r hr;rw[List.mem_singleton.1 hr];rfl) (by simp[bB]) 1 D) (by omega);have hgy:gm+1≤(y4.alloc (aI #[aG b4,O Y m4,aG b5,O Y m5,aG b6,O Y m6,aG b7,O Y m7] 289)).heap.size:=by have:=bT Cp;rw[cL];omega
    have HT1:=bK (bO hT1 sB);clear hT1 sB Cp hbn;refine eL ?_;go_wp2_with(at_builtin;refine rP ?_);clear q3 q10 q11 q12 q13 q14 q15 q16 q17;generalize(y4.alloc (aI #[aG b4,O Y m4,aG b5,O Y m5,aG b6,O Y m6,aG b7,O Y m7] 289))=y5 at*;refine eL (iY (base:=gm+1) (n:=k) underlying80 HVI.out D (by omega) rA D hrd D (by simp[Value.oneCell']) (k:=k+1) D (show X.flatten++ [aG b4,O Y m4,aG b5,O Y m5,aG b6,O Y m6,aG b7,O Y m7]=(X++ [([aG b4,O Y m4,aG b5,O Y m5,aG b6,O Y m6,aG b7,O Y m7]:List aT)]).flatten by simp) (by unfold bB;omega) (by omega) hgy ?_);intro A5 c5 y6 uQ hgr zE;have hT6:=hT5.othU (AY hgr) (fun j hj=>by have:=HJ j hj;omega);have s3:=hT6.cell (i:=3) D;have t3:=hT6.free 3;have hT7:=hT6.set1 yN 3 (aL A5 (k+1) c5) #[O Y n1,O Y n2,O Y n3,aL A5 (k+1) c5] D;have sC:=vG uQ (gO gm 3 (aL A5 (k+1) c5)) (fun j hj h=>by have:=eU uQ hj;omega);have hlz:z3.2.length=4*(aB-(k+1)):=by have e1:=zM BH st;rw[Q4.out] at e1;have e2:=zM S0 z0;rw[Q5.out] at e2;have e3:=zM Rk z1;rw[Q6.out] at e3;have e4:=zM yK z2;rw[Q7.out] at e4;have:=HX.out.1;simp only at e1 e2 e3 e4;omega
    have hvw:lM (4-k) st=([aG b4,O Y m4,aG b5,O Y m5,aG b6,O Y m6,aG b7,O Y m7]::(lM (4-(k+1)) z3).1,(lM (4-(k+1)) z3).2):=by
     rw[show 4-k=(4-(k+1))+1 by omega];show(if st.2= [] then _ else _)=_;rw[bX (fun e=>by have:=HX.out.1;rw[e] at this;simp at this;omega)];have ev:Fg st=([aG b4,O Y m4,aG b5,O Y m5,aG b6,O Y m6,aG b7,O Y m7],z3):=by unfold Fg;simp only[Q4.out,Q5.out,Q6.out,Q7.out,tR,dS,eF]
     rw[ev]
    have HN:=bK (bO hT7 (bO sC (show z3.2.length=4*(aB-(k+1))∧(X++ [([aG b4,O Y m4,aG b5,O Y m5,aG b6,O Y m6,aG b7,O Y m7]:List aT)]).length=k+1∧(∀x∈X++ [([aG b4,O Y m4,aG b5,O Y m5,aG b6,O Y m6,aG b7,O Y m7]:List aT)],x.length=8)∧lM 4 d=((X++ [([aG b4,O Y m4,aG b5,O Y m5,aG b6,O Y m6,aG b7,O Y m7]:List aT)])++(lM (4-(k+1)) z3).1,(lM (4-(k+1)) z3).2) from
     ⟨hlz,by rw[cZ,HX.out.2.1];rfl,fun x hx=>by
      rcases List.mem_append.1 hx with hx|hx
      ·exact HX.out.2.2.1 x hx
      ·rw[List.mem_singleton.1 hx];rfl,by rw[HX.out.2.2.2,hvw];simp⟩)))
    have hms:D8 g (y6.setCell ⟨gm,3,J⟩ (aL A5 (k+1) c5))<D8 g wr:=by rw[Lx hT7.e,HM.out,hlz,HX.out.1];omega
    have HMS:=bK hms;clear hT5 hT6 hT7 rA uQ sC hgr zE hrd hlz hvw hms HT1 HJ;go_wp2;go_roundw;case rel=>exact⟨k+1,c5,A5,z3,X++ [([aG b4,O Y m4,aG b5,O Y m5,aG b6,O Y m6,aG b7,O Y m7]:List aT)],by omega,HN.out.1,HN.out.2.1,rj,bK HN.out.2.2⟩
    case measure=>exact HMS.out
   ·have hz:st.2.length=0:=by have:=HX.out.1;omega
    have oy: ¬(0:Int)<(st.2.length:Int):=by omega
    have hLf:=bK (j9 _ g st _ hT.e);have OB:lM 4 d=(X,st):=by rw[HX.out.2.2.2,BF _ st (cU hz)];simp
    have hkn:k≤4:=by omega
    have hS:K7 l=(⟨n1,n2,n3,X⟩,st.1):=by unfold K7;simp only[←Q0.out,←Q1.out,←Q2.out,Q3.out];rw[←HDD.out,OB]
    have hV:=HV.out;rw[hS] at hV;simp only at hV;have HV2:=bK hV;have HX2:=bK (bO HX.out.2.1 HX.out.2.2.1);clear hS hV HV HX OB hz;go_wp2_with fail;go_fit hLf.out;rintro e wr' ⟨rfl,rfl⟩;clear hLf;go_wp2_with fail;go_fit(zI _ g st _ hT.e);rintro e vv ⟨rfl,rfl⟩;obtain⟨hE,hres,hq,hb,hlo⟩:=hT;have HOW:=bK own;clear hE own;by_cases he:st.1=0
    ·have zZ:(st.1:Int)=0:=by omega
     rw[bY he,he] at HV2;clear he;go_wp2_with(with_reducible refine sG [82] ?_);refine eL (dI D _ _ D gm D _ _ _ _ hq jC D (by kernel_rfl) ?_);go_wp2_with(with_reducible refine sG [82] ?_);refine eL (bQ D _ _ _ D w.heap.size #[O Y n1,O Y n2,O Y n3,aL A3 k c3] D D _ _ hres (by kernel_rfl) D (by kernel_rfl) ?_);have cS:=bW _ _ _ (#[O Y n1,O Y n2,O Y n3,aL A3 k c3]:Array aT) _ _ hres;have hb5:=cB hb (bM _) (#[O Y n1,O Y n2,O Y n3,aL A3 k c3]:Array aT);have rA:=vG HOW.out (dZ w.heap.size (#[O Y n1,O Y n2,O Y n3,aL A3 k c3]:Array aT)) (fun j hj h=>by have:=eU HOW.out hj;omega);have hA3: ∀p,A3=aE p→w.heap.size≤p.block:=fun p hp=>by have:=eU HOW.out (k:=p.block) (by rw[hp];rfl);omega
     generalize(wr.setRow w.heap.size #[O Y n1,O Y n2,O Y n3,aL A3 k c3])=v9 at*;simp only[Act.put];repeat go_step
     exact bR (cD D _ _ w.heap.size _ _ _ _ D cS jC D (by kernel_rfl)) D ⟨A3,k,c3,by rw[HV2.out];rfl,by rw[HV2.out];exact RdR.own rA HX2.out.1 HX2.out.2,hA3,hkn,hb5⟩
    ·have zZ: ¬(st.1:Int)=0:=by omega
     rw[bX he] at HV2;clear he hq;go_wp2_with(with_reducible refine sG [82] ?_);refine eL (bQ D _ _ _ D w.heap.size #[O Y 0,O Y 0,O Y 0,aL J 0 0] D D _ _ hres (by kernel_rfl) D (by kernel_rfl) ?_);have cS:=bW _ _ _ (#[O Y 0,O Y 0,O Y 0,aL J 0 0]:Array aT) _ _ hres;have hb5:=cB hb (bM _) (#[O Y 0,O Y 0,O Y 0,aL J 0 0]:Array aT);generalize(wr.setRow w.heap.size #[O Y 0,O Y 0,O Y 0,aL J 0 0])=v9 at*;simp only[Act.put];repeat go_step
     exact bR (cD D _ _ w.heap.size _ _ _ _ D cS jC D (by kernel_rfl)) D ⟨J,0,0,by rw[HV2.out];rfl,by rw[HV2.out];exact kR _ _ _,fun p hp=>(by cases hp),by omega,hb5⟩
abbrev gI:=@Array.size_setIfInBounds
def VtB(w:aS)(lo g gr gm:Nat)(st:kY)(C:Array aT):Prop:=
 EyB w lo g st∧w.heap[gr]?=aE (aI #[aK (aE ⟨g,0,J⟩)] 518)∧w.heap[gm]?=aE (aI C 79)∧C.size=8
def S7(w:aS)(lo g gr gm:Nat)(st:kY)(C:Array aT)(e:aX)(w':aS):Prop:=
 e=aJ (aN #[])∧VtB w' lo g gr gm st C∧Aw (fun j=>j=g∨j=gm) w w'
theorem Cm{C:Array aT}{n i:Nat}(h:C.size=n)(hi:i<n): ∃v,C[i]?=aE v:=⟨C[i]'(by omega),dL (by omega)⟩
theorem x9(c:uX)(hc:uR c)(u:UInt8)(off lo g gr gm:Nat)(st:kY)(C:Array aT)(w:aS)(h:VtB w lo g gr gm st C)(hlo:lo≤g)(h1:g<gr)(h2:gr<gm)(aI4:off+1<8)(hok:EyOk st):
  aU bH 356 #[aM #[O Y c.whole,O Y c.most,O Y c.frac,O Y c.lo,O Y c.hi,aH ⟨#[u]⟩],aK (aE ⟨gm,off,J⟩),aK (aE ⟨gr,0,J⟩)] w
   (S7 w lo g gr gm (pD c u st).2 ((C.setIfInBounds off (aG (pD c u st).1.is)).setIfInBounds (off+1) (O Y (pD c u st).1.n))):=by
 obtain⟨hE,hr,hm,hC⟩:=h;have yN:=bT hm;obtain⟨b,n,s1,Q1,hok1,hN⟩:=yP (v:=w.alloc (aI #[O Y c.whole,O Y c.most,O Y c.frac,O Y c.lo,O Y c.hi,aH ⟨#[u]⟩] 544)) c hc (hE.below ((bP _ _).alloc (bM _) _) hlo) hlo hok;have he:pD c u st=(⟨b,n⟩,qA u b s1):=by unfold pD;rw[Q1.out]
 rw[he];have hbx:aV w.heap.size w (w.alloc (aI #[O Y c.whole,O Y c.most,O Y c.frac,O Y c.lo,O Y c.hi,aH ⟨#[u]⟩] 544)):=(bP _ _).alloc (bM _) _;have hx:=bS w (aI #[O Y c.whole,O Y c.most,O Y c.frac,O Y c.lo,O Y c.hi,aH ⟨#[u]⟩] 544);replace hr:=bV hr hbx (by omega);replace hm:=bV hm hbx (by omega);have HX:=bK (bO hx hm);have ha0:=fC hbx (fun j=>j=g∨j=gm);have r0:=bL (i:=0) (v:=aK (aE ⟨g,0,J⟩)) hr D;have HC:=bK hC;have q0:=bL (i:=0) (v:=O Y c.whole) hx D;have q1:=bL (i:=1) (v:=O Y c.most) hx D;have q2:=bL (i:=2) (v:=O Y c.frac) hx D;have q3:=bL (i:=3) (v:=O Y c.lo) hx D;have q4:=bL (i:=4) (v:=O Y c.hi) hx D;clear he Q1 hE hok hbx hx hm hC;go_enter func356,ntmps356;go_wp2_with fail;go_fit hN.out;rintro e v ⟨rfl,hE1,ha⟩;have hr1:=ha.keep hr (by omega);have hx1:=ha.keep HX.out.1 (by omega);have uP:=ha.keep HX.out.2 (by omega);have hA1:=ha0.trans (ha.mono (U':=fun j=>j=g∨j=gm) fun k hk=> .inl hk);clear hN HX hr ha ha0 r0 q0 q1 q2 q3 q4;obtain⟨u0,rp⟩:=Cm HC.out (show off<8 by omega);obtain⟨u1,rq⟩:=Cm HC.out (show off+1<8 by omega);have k0:=bL (i:=off) uP rp;have k1:=bL (i:=off+1) uP rq;have k2:=bZ (i:=off) uP;have k3:=bZ (i:=off+1) uP;have m2:=cN (i:=off+1) (cN (i:=off) uP (aG b)) (O Y n);have haw:=sM (w:=v) gm off (aG b) (O Y n);have hE2:=hE1.keep haw (fun k hk=>by omega) hlo;have hr2:=haw.keep hr1 (by omega);have hx2:=haw.keep hx1 (by omega);have hA2:=hA1.trans (haw.mono (U':=fun j=>j=g∨j=gm) fun k hk=> .inr hk);have HY:=bK (bO hE2 (bO m2 (bO hx2 hA2)));have r0:=bL (i:=0) (v:=aK (aE ⟨g,0,J⟩)) hr1 D;have HR2:=bK hr2;clear hE1 hr1 hx1 uP hA1 m2 haw hE2 hr2 hx2 hA2 rp rq;go_wp2_with fail;obtain⟨hE2,m2,hx2,hA2⟩:=HY.out;have hr2:=HR2.out;clear HY HR2 r0 k0 k1 k2 k3;generalize((v.setCell ⟨gm,off,J⟩ (aG b)).setCell ⟨gm,off+1,J⟩ (O Y n))=v2 at*;obtain⟨t,s2,Q2,xU,hT⟩:=SW hE2 hlo hok1;go_fit hT.out;rintro e v3 ⟨rfl,hE3,ha3⟩;have hr3:=ha3.keep hr2 (by omega);have Na:=ha3.keep hx2 (by omega);have m3:=ha3.keep m2 (by omega);have hA3:=hA2.trans (ha3.mono (U':=fun j=>j=g∨j=gm) fun k hk=> .inl hk)
 have HC3:Hid (((C.setIfInBounds off (aG b)).setIfInBounds (off+1) (O Y n)).size=8):=bK (by simp only[gI];exact HC.out);have y5:=bL (i:=5) (v:=aH ⟨#[u]⟩) Na D
 have y0:v3.cell? ⟨gm,off,J⟩=aE (aG b):=bL (i:=off) m3 (by
  rw[Array.getElem?_setIfInBounds_ne (by omega),Array.getElem?_setIfInBounds_self_of_lt (by rw[HC.out];omega)])
 have z0:=bL (i:=0) (v:=aK (aE ⟨g,0,J⟩)) hr3 D;have HE:Hid (qA u b s1=if sb t≠ [u]∧(b=aF∨t.size≠0) then tP s2 3 else s2):=bK (by unfold qA;rw[Q2.out]);have HF:=bK (jL lo g 3 s2 v3 hE3 hlo);have HNO:Hid ((qA u b s1=s2)→S7 w lo g gr gm (qA u b s1) ((C.setIfInBounds off (aG b)).setIfInBounds (off+1) (O Y n)) (aJ (aN #[])) v3):=bK (fun h=>⟨D,⟨by rw[h];exact hE3,hr3,m3,HC3.out⟩,hA3⟩);have HYES:Hid (∀v4,(qA u b s1=tP s2 3)→EyB v4 lo g (tP s2 3)→Aw (fun j=>j=g) v3 v4→S7 w lo g gr gm (qA u b s1) ((C.setIfInBounds off (aG b)).setIfInBounds (off+1) (O Y n)) (aJ (aN #[])) v4):=bK (fun v4 h hE ha=>⟨D,⟨by rw[h];exact hE,ha.keep hr3 (by omega),ha.keep m3 (by omega),HC3.out⟩,hA3.trans (ha.mono (U':=fun j=>j=g∨j=gm) fun k hk=> .inl hk)⟩);clear hE2 hr2 hx2 m2 hA2 ha3 hr3 Na m3 hA3 hT hE3;by_cases h1:sb t= [u]
 ·have t1:t.toList= [u]:=tl_eq.2 h1;have HQ:=bK (HNO.out (HE.out.trans (bX (fun h=>h.1 h1))));clear HE h1 HF HYES HNO;go_wp2
  ((try simp only[Exit.inBlock,Exit.then]);refine dC (cT D _ _ _) D ?_)
  exact HQ.out
 have t1:(t.toList== [u])=aD:=lX h1
 cases b with
 |true=>
  have HR:=bK (HE.out.trans (bY ⟨h1,.inl D⟩));clear HE h1 HNO;go_wp2_with fail;go_fit HF.out;rintro e v4 ⟨rfl,hE2,ha2⟩;have HQ:=bK (HYES.out v4 HR.out hE2 ha2);clear hE2 ha2 HF HYES y0 y5 z0;go_wp2
  ((try simp only[Exit.inBlock,Exit.then]);refine dC (cT D _ _ _) D ?_)
  exact HQ.out
 |false=>
  by_cases h0:t.size=0
  ·have e0:t.toList= []:=by rw[dR];exact(lQ t).2 h0
   have HQ:=bK (HNO.out (HE.out.trans (bX (fun h=>by rcases h.2 with h|h;cases h;exact h h0))));clear HE h1 HF h0 HYES HNO;go_wp2
   ((try simp only[Exit.inBlock,Exit.then]);refine dC (cT D _ _ _) D ?_)
   exact HQ.out
  ·have e0:=pZ h0;have HR:=bK (HE.out.trans (bY ⟨h1,.inr h0⟩));clear HE h1 HNO h0;go_wp2_with fail;go_fit HF.out;rintro e v4 ⟨rfl,hE2,ha2⟩;have HQ:=bK (HYES.out v4 HR.out hE2 ha2);clear hE2 ha2 HF HYES y0 y5 z0;go_wp2
   ((try simp only[Exit.inBlock,Exit.then]);refine dC (cT D _ _ _) D ?_)
   exact HQ.out
abbrev sW:=@underlying545
abbrev sX:=@underlying544
def Vn:Array aT:= #[O Y 1,O Y 3,O Y 2,O Y 0,O Y 36000,aH ⟨#[84]⟩,O Y 1,O Y 3,O Y 2,O Y 0,O Y 36000,aH ⟨#[77]⟩,O Y 1,O Y 4,O Y 2,O Y 0,O Y 999999,aH ⟨#[78]⟩,O Y 1,O Y 4,O Y 2,O Y 0,O Y 999999,aH ⟨#[75]⟩]
def Vi(gm:Nat):Array aT:= #[aK (aE ⟨gm,0,J⟩),aK (aE ⟨gm,2,J⟩),aK (aE ⟨gm,4,J⟩),aK (aE ⟨gm,6,J⟩)]
theorem J0(w:aS):aU bH 354 #[] w fun e w'=> ∃ga,e=aJ (aL (aE ⟨ga,0,J⟩) 4 4)∧w'.heap[ga]?=aE (aI Vn 544)∧w.heap.size≤ga∧aV w.heap.size w w':=by
 go_enter func354,ntmps354;go_wp2;go_ret;refine⟨_,D,(WD w _ _ _).2.2.1,?_,?_⟩
 ·omega
 ·exact(((bP _ _).alloc (bM _) _).alloc (by simp) _).alloc (by simp;omega) _
theorem Jc(gm:Nat)(w:aS):aU bH 355 #[aK (aE ⟨gm,0,J⟩)] w fun e w'=> ∃gb,e=aJ (aL (aE ⟨gb,0,J⟩) 4 4)∧w'.heap[gb]?=aE (aI (Vi gm) 545)∧w.heap.size≤gb∧aV w.heap.size w w':=by
 go_enter func355,ntmps355;go_wp2_with fail;refine cQ (fun _=>True) aD [] (by kernel_rfl) (by kernel_rfl) cM ?_;iterate 12 refine Ord.K ?_
 refine Ord.X ?_;go_wp2;refine cC cM (fun h=>by cases h) ?_;refine PT ?_;refine Ord.K ?_;refine cV ?_;go_wp2;go_ret;refine⟨_,D,bS _ _,?_,?_⟩
 ·exact bM _
 ·exact((bP _ _).drew).alloc (bM _) _
def Sm(l:List UInt8):Bool:=match l with
 | [c]=>WH c
 |_=>aD
theorem Rv(s:ByteArray)(w:aS):aU bH 358 #[aH s] w fun e w'=>e=aJ (aG (Sm (sb s)))∧w=w':=by
 by_cases h1:s.size=1
 ·have hs:=We h1;have i1:(s.size:Int)=1:=by omega
  have i0:(0:Int)<(s.size:Int):=by omega
  have j0:0<s.size:=by omega
  rw[hs];have hc:Sm [s[0]]=WH s[0]:=D;rw[hc];unfold WH;by_cases UG:65≤s[0].toNat
  ·have k1:(65:Int)≤(s[0].toNat:Int):=by omega
   by_cases dy:s[0].toNat≤90
   ·have k2:(s[0].toNat:Int)≤90:=by omega
    rw[dU ⟨UG,dy⟩];clear hs h1 hc UG dy;go_enter func358,ntmps358;go_wp2;go_ret;exact⟨D,D⟩
   ·have k2: ¬(s[0].toNat:Int)≤90:=by omega
    rw[dN (fun h=>dy h.2)];clear hs h1 hc UG dy;go_enter func358,ntmps358;go_wp2;go_ret;exact⟨D,D⟩
  ·have k1: ¬(65:Int)≤(s[0].toNat:Int):=by omega
   rw[dN (fun h=>UG h.1)];clear hs h1 hc UG;go_enter func358,ntmps358;go_wp2;go_ret;exact⟨D,D⟩
 ·have i1: ¬(s.size:Int)=1:=by omega
  have hc:Sm (sb s)=aD:=by
   unfold Sm;split
   ·rename_i c h;exact absurd (by rw[←iI,h];rfl) h1
   ·rfl
  rw[hc];clear h1 hc;go_enter func358,ntmps358;go_wp2;go_ret;exact⟨D,D⟩
theorem VtB.aw0{w w':aS}{lo g gr gm:Nat}{st:kY}{C:Array aT}(h:VtB w lo g gr gm st C)(ha:Aw (fun _=>False) w w')(hlo:lo≤g):VtB w' lo g gr gm st C:=
 ⟨h.1.keep ha (fun k hk=>hk.elim) hlo,ha.keep h.2.1 (fun h=>h),ha.keep h.2.2.1 (fun h=>h),h.2.2.2⟩
theorem oI(w:aS):Aw (fun _=>False) w w.drew:=⟨D,D,D,bM _,fun _ _ _=>rfl⟩
def Iv:Nat→kY × Array aT→kY × Array aT
 |0,x=>((pD vY 84 x.1).2,(x.2.setIfInBounds 0 (aG (pD vY 84 x.1).1.is)).setIfInBounds 1 (O Y (pD vY 84 x.1).1.n))
 |1,x=>((pD vY 77 x.1).2,(x.2.setIfInBounds 2 (aG (pD vY 77 x.1).1.is)).setIfInBounds 3 (O Y (pD vY 77 x.1).1.n))
 |2,x=>((pD vX 78 x.1).2,(x.2.setIfInBounds 4 (aG (pD vX 78 x.1).1.is)).setIfInBounds 5 (O Y (pD vX 78 x.1).1.n))
 |3,x=>((pD vX 75 x.1).2,(x.2.setIfInBounds 6 (aG (pD vX 75 x.1).1.is)).setIfInBounds 7 (O Y (pD vX 75 x.1).1.n))
 |_,x=>x
def uS(x:kY × Array aT):Nat→kY × Array aT
 |0=>x
 |i+1=>Iv i (uS x i)
theorem EyOk.col{st:kY}(h:EyOk st)(c:uX)(u:UInt8):EyOk (pD c u st).2:=(h.num c).unit u _
theorem Iz(x:kY × Array aT)(h:EyOk x.1): ∀i,EyOk (uS x i).1
 |0=>h
 |i+1=>by
  have ih:=Iz x h i;show EyOk (Iv i (uS x i)).1;unfold Iv;split
  ·exact ih.col _ _
  ·exact ih.col _ _
  ·exact ih.col _ _
  ·exact ih.col _ _
  ·exact ih
theorem S5(lo g gr gm ga gb:Nat)(st:kY)(C:Array aT)(w:aS)(h:VtB w lo g gr gm st C)(hlo:lo≤g)(h1:g<gr)(h2:gr<gm)(hok:EyOk st)(ha:w.heap[ga]?=aE (aI Vn 544))(hb:w.heap[gb]?=aE (aI (Vi gm) 545))(h3:gm<ga)(h4:gm<gb):
  aU bH 353 #[aL (aE ⟨ga,0,J⟩) 4 4,aL (aE ⟨gb,0,J⟩) 4 4,.func (.func 356) #[] #[aK (aE ⟨gr,0,J⟩)]] w
   (S7 w lo g gr gm (uS (st,C) 4).1 (uS (st,C) 4).2):=by
 have HOK:=bK (Iz (st,C) hok);go_enter func353,ntmps353;go_wp2_with fail;go_loopw [12] (fun kk wr=> ∃i:Nat,kk=O Y (i:Int)∧i≤4∧VtB wr lo g gr gm (uS (st,C) i).1 (uS (st,C) i).2∧wr.heap[ga]?=aE (aI Vn 544)∧wr.heap[gb]?=aE (aI (Vi gm) 545)∧Aw (fun j=>j=g∨j=gm) w wr) (fun kk _=>4-(bE kk).toNat);case atStart=>exact⟨0,D,by omega,h,ha,hb,cY _ _⟩
 case round=>
  clear h ha hb hok;obtain⟨i,rfl,hi,hV,ha,hb,haw⟩:=hrel;by_cases jr:i<4
  ·have hok:=HOK.out i;have hi':(i:Int)<4:=by omega
   obtain⟨x,hx⟩: ∃x,x=uS (st,C) i:=⟨_,D⟩;have Tg:uS (st,C) (i+1)=Iv i x:=by rw[hx];rfl
   rw[←hx] at hV hok;have HNX:=bK Tg;clear hx Tg;rcases(by omega:i=0∨i=1∨i=2∨i=3) with ei|ei|ei|ei
   ·have J9:wr.drew.rangeAt ga (i*6) [O Y 1,O Y 3,O Y 2,O Y 0,O Y 36000,aH ⟨#[84]⟩]:=j7 (by
     rw[ei]
     exact jT ha (0*6) (fun j v hv=>by
      match j,hv with
      |0,hv=>exact hv
      |1,hv=>exact hv
      |2,hv=>exact hv
      |3,hv=>exact hv
      |4,hv=>exact hv
      |5,hv=>exact hv
      |j+6,hv=>simp at hv))
    have MF:wr.drew.cell? ⟨gb,i,J⟩=aE (aK (aE ⟨gm,0,J⟩)):=bL (w:=wr) (i:=i) hb (by rw[ei];rfl);have HE:Hid (i=0):=bK ei;clear ei;go_wp2_with fail;refine cQ (fun _=>True) aF [19,23,24] (by kernel_rfl) (by kernel_rfl) cM ?_;replace hV:=hV.aw0 (oI wr) hlo;replace ha:=(oI wr).keep ha (fun h=>h);replace hb:=(oI wr).keep hb (fun h=>h);replace haw:=haw.trans ((oI wr).mono (U':=fun j=>j=g∨j=gm) fun k hk=>hk.elim);generalize wr.drew=w1 at*;iterate 4 refine Ord.K ?_
    refine kS sX D (by kernel_rfl) D J9 (by rfl) (by kernel_rfl) ?_;refine PT ?_;iterate 3 refine Ord.K ?_
    refine eP sW D MF D (by rfl) (by kernel_rfl) ?_;refine PT ?_;have HC:=bK (x9 vY Oh 84 0 lo g gr gm x.1 x.2 w1 hV hlo h1 h2 (by omega) hok);have HK:=bK (bO ha (bO hb haw));clear hV hok ha hb haw J9 MF;refine Ord.X ?_;go_wp2_with fail;go_fit HC.out;rintro e w2 ⟨rfl,Y7,haw2⟩;have HF:=bK (bO Y7 (bO (haw2.keep HK.out.1 (by omega)) (bO (haw2.keep HK.out.2.1 (by omega)) (HK.out.2.2.trans haw2))));clear HC HK Y7 haw2;go_wp2_with fail;refine cC cM (fun h=>by cases h) ?_;refine PT ?_;refine cV ?_;go_wp2;go_roundw;case rel=>exact⟨i+1,by go_num,by omega,by rw[HNX.out,HE.out];exact HF.out.1,HF.out.2⟩
    case measure=>simp[bE];omega
   ·have J9:wr.drew.rangeAt ga (i*6) [O Y 1,O Y 3,O Y 2,O Y 0,O Y 36000,aH ⟨#[77]⟩]:=j7 (by
     rw[ei]
     exact jT ha (1*6) (fun j v hv=>by
      match j,hv with
      |0,hv=>exact hv
      |1,hv=>exact hv
      |2,hv=>exact hv
      |3,hv=>exact hv
      |4,hv=>exact hv
      |5,hv=>exact hv
      |j+6,hv=>simp at hv))
    have MF:wr.drew.cell? ⟨gb,i,J⟩=aE (aK (aE ⟨gm,2,J⟩)):=bL (w:=wr) (i:=i) hb (by rw[ei];rfl);have HE:Hid (i=1):=bK ei;clear ei;go_wp2_with fail;refine cQ (fun _=>True) aF [19,23,24] (by kernel_rfl) (by kernel_rfl) cM ?_;replace hV:=hV.aw0 (oI wr) hlo;replace ha:=(oI wr).keep ha (fun h=>h);replace hb:=(oI wr).keep hb (fun h=>h);replace haw:=haw.trans ((oI wr).mono (U':=fun j=>j=g∨j=gm) fun k hk=>hk.elim);generalize wr.drew=w1 at*;iterate 4 refine Ord.K ?_
    refine kS sX D (by kernel_rfl) D J9 (by rfl) (by kernel_rfl) ?_;refine PT ?_;iterate 3 refine Ord.K ?_
    refine eP sW D MF D (by rfl) (by kernel_rfl) ?_;refine PT ?_;have HC:=bK (x9 vY Oh 77 2 lo g gr gm x.1 x.2 w1 hV hlo h1 h2 (by omega) hok);have HK:=bK (bO ha (bO hb haw));clear hV hok ha hb haw J9 MF;refine Ord.X ?_;go_wp2_with fail;go_fit HC.out;rintro e w2 ⟨rfl,Y7,haw2⟩;have HF:=bK (bO Y7 (bO (haw2.keep HK.out.1 (by omega)) (bO (haw2.keep HK.out.2.1 (by omega)) (HK.out.2.2.trans haw2))));clear HC HK Y7 haw2;go_wp2_with fail;refine cC cM (fun h=>by cases h) ?_;refine PT ?_;refine cV ?_;go_wp2;go_roundw;case rel=>exact⟨i+1,by go_num,by omega,by rw[HNX.out,HE.out];exact HF.out.1,HF.out.2⟩
    case measure=>simp[bE];omega
   ·have J9:wr.drew.rangeAt ga (i*6) [O Y 1,O Y 4,O Y 2,O Y 0,O Y 999999,aH ⟨#[78]⟩]:=j7 (by
     rw[ei]
     exact jT ha (2*6) (fun j v hv=>by
      match j,hv with
      |0,hv=>exact hv
      |1,hv=>exact hv
      |2,hv=>exact hv
      |3,hv=>exact hv
      |4,hv=>exact hv
      |5,hv=>exact hv
      |j+6,hv=>simp at hv))
    have MF:wr.drew.cell? ⟨gb,i,J⟩=aE (aK (aE ⟨gm,4,J⟩)):=bL (w:=wr) (i:=i) hb (by rw[ei];rfl);have HE:Hid (i=2):=bK ei;clear ei;go_wp2_with fail;refine cQ (fun _=>True) aF [19,23,24] (by kernel_rfl) (by kernel_rfl) cM ?_;replace hV:=hV.aw0 (oI wr) hlo;replace ha:=(oI wr).keep ha (fun h=>h);replace hb:=(oI wr).keep hb (fun h=>h);replace haw:=haw.trans ((oI wr).mono (U':=fun j=>j=g∨j=gm) fun k hk=>hk.elim);generalize wr.drew=w1 at*;iterate 4 refine Ord.K ?_
    refine kS sX D (by kernel_rfl) D J9 (by rfl) (by kernel_rfl) ?_;refine PT ?_;iterate 3 refine Ord.K ?_
    refine eP sW D MF D (by rfl) (by kernel_rfl) ?_;refine PT ?_;have HC:=bK (x9 vX Nn 78 4 lo g gr gm x.1 x.2 w1 hV hlo h1 h2 (by omega) hok);have HK:=bK (bO ha (bO hb haw));clear hV hok ha hb haw J9 MF;refine Ord.X ?_;go_wp2_with fail;go_fit HC.out;rintro e w2 ⟨rfl,Y7,haw2⟩;have HF:=bK (bO Y7 (bO (haw2.keep HK.out.1 (by omega)) (bO (haw2.keep HK.out.2.1 (by omega)) (HK.out.2.2.trans haw2))));clear HC HK Y7 haw2;go_wp2_with fail;refine cC cM (fun h=>by cases h) ?_;refine PT ?_;refine cV ?_;go_wp2;go_roundw;case rel=>exact⟨i+1,by go_num,by omega,by rw[HNX.out,HE.out];exact HF.out.1,HF.out.2⟩
    case measure=>simp[bE];omega
   ·have J9:wr.drew.rangeAt ga (i*6) [O Y 1,O Y 4,O Y 2,O Y 0,O Y 999999,aH ⟨#[75]⟩]:=j7 (by
     rw[ei]
     exact jT ha (3*6) (fun j v hv=>by
      match j,hv with
      |0,hv=>exact hv
      |1,hv=>exact hv
      |2,hv=>exact hv
      |3,hv=>exact hv
      |4,hv=>exact hv
      |5,hv=>exact hv
      |j+6,hv=>simp at hv))
    have MF:wr.drew.cell? ⟨gb,i,J⟩=aE (aK (aE ⟨gm,6,J⟩)):=bL (w:=wr) (i:=i) hb (by rw[ei];rfl);have HE:Hid (i=3):=bK ei;clear ei;go_wp2_with fail;refine cQ (fun _=>True) aF [19,23,24] (by kernel_rfl) (by kernel_rfl) cM ?_;replace hV:=hV.aw0 (oI wr) hlo;replace ha:=(oI wr).keep ha (fun h=>h);replace hb:=(oI wr).keep hb (fun h=>h);replace haw:=haw.trans ((oI wr).mono (U':=fun j=>j=g∨j=gm) fun k hk=>hk.elim);generalize wr.drew=w1 at*;iterate 4 refine Ord.K ?_
    refine kS sX D (by kernel_rfl) D J9 (by rfl) (by kernel_rfl) ?_;refine PT ?_;iterate 3 refine Ord.K ?_
    refine eP sW D MF D (by rfl) (by kernel_rfl) ?_;refine PT ?_;have HC:=bK (x9 vX Nn 75 6 lo g gr gm x.1 x.2 w1 hV hlo h1 h2 (by omega) hok);have HK:=bK (bO ha (bO hb haw));clear hV hok ha hb haw J9 MF;refine Ord.X ?_;go_wp2_with fail;go_fit HC.out;rintro e w2 ⟨rfl,Y7,haw2⟩;have HF:=bK (bO Y7 (bO (haw2.keep HK.out.1 (by omega)) (bO (haw2.keep HK.out.2.1 (by omega)) (HK.out.2.2.trans haw2))));clear HC HK Y7 haw2;go_wp2_with fail;refine cC cM (fun h=>by cases h) ?_;refine PT ?_;refine cV ?_;go_wp2;go_roundw;case rel=>exact⟨i+1,by go_num,by omega,by rw[HNX.out,HE.out];exact HF.out.1,HF.out.2⟩
    case measure=>simp[bE];omega
  ·have i4:i=4:=by omega
   have hi': ¬(i:Int)<4:=by omega
   rw[i4] at hV;have HF:=bK (show S7 w lo g gr gm (uS (st,C) 4).1 (uS (st,C) 4).2 (aJ (aN #[])) wr from⟨D,hV,haw⟩);clear hV ha hb haw i4;go_wp2
   ((try simp only[Exit.inBlock,Exit.then]);refine dC (cT D _ _ _) D ?_)
   exact HF.out
abbrev jD:=@underlying79
theorem YT(a0 a1 a2 a3 a4 a5 a6 a7:aT):((((((((#[aG aD,O Y 0,aG aD,O Y 0,aG aD,O Y 0,aG aD,O Y 0]:Array aT).setIfInBounds 0 a0).setIfInBounds 1 a1).setIfInBounds 2 a2).setIfInBounds 3 a3).setIfInBounds 4 a4).setIfInBounds 5 a5).setIfInBounds 6 a6).setIfInBounds 7 a7= #[a0,a1,a2,a3,a4,a5,a6,a7]:=by kernel_rfl
theorem BZ(l:List ByteArray):(uS (((0,l):kY),#[aG aD,O Y 0,aG aD,O Y 0,aG aD,O Y 0,aG aD,O Y 0]) 4).2.size=8∧(uS (((0,l):kY),#[aG aD,O Y 0,aG aD,O Y 0,aG aD,O Y 0,aG aD,O Y 0]) 4).2.all (·.oneCell')=aF∧
  Gv l=((uS (((0,l):kY),#[aG aD,O Y 0,aG aD,O Y 0,aG aD,O Y 0,aG aD,O Y 0]) 4).2.toList,(nZ (uS (((0,l):kY),#[aG aD,O Y 0,aG aD,O Y 0,aG aD,O Y 0,aG aD,O Y 0]) 4).1).1):=by
 simp only[uS,Iv,Gv];generalize pD vY 84 (0,l)=q0 at*;generalize pD vY 77 q0.2=q1 at*;generalize pD vX 78 q1.2=q2 at*;generalize pD vX 75 q2.2=q3 at*;rw[YT];exact⟨D,by simp[Value.oneCell'],D⟩
theorem Qe(A:Option aW)(n c B:Nat)(l:List ByteArray)(w:aS)(h:Rd w B 1 A n c (nY l))(hB:B≤w.heap.size)(hn:n≤1000)(hl: ∀s∈l,s.size≤1000000):
  aU bH 280 #[aL A n c] w (Gt w (zV l)):=by
 have oJ:l.length=n:=by have:=h.len;simpa [nY] using this
 have hres:=bS w (aI #[aG aD,O Y 0,aG aD,O Y 0,aG aD,O Y 0,aG aD,O Y 0] 79);have hb0:aV w.heap.size w (w.alloc (aI #[aG aD,O Y 0,aG aD,O Y 0,aG aD,O Y 0,aG aD,O Y 0] 79)):=(bP _ _).alloc (bM _) _;by_cases h14:n=8∨n=9
 case neg=>
  have HR:Hid (zV l=(vt0,3)):=bK (by unfold zV;rw[bX (by omega)]);have i11:((n:Int) !=8)=aF:=by rw[xV];omega
  have i12:((n:Int) !=9)=aF:=by rw[xV];omega
  clear h h14 oJ;go_enter func280,ntmps280;go_wp2_with(with_reducible refine sG [79] ?_);refine eL (bQ D _ _ _ D w.heap.size #[aG aD,O Y 0,aG aD,O Y 0,aG aD,O Y 0,aG aD,O Y 0] D D _ _ hres (by kernel_rfl) D (by kernel_rfl) ?_);have cS:=bW _ _ _ (#[aG aD,O Y 0,aG aD,O Y 0,aG aD,O Y 0,aG aD,O Y 0]:Array aT) _ _ hres;have hb5:=cB hb0 (bM _) (#[aG aD,O Y 0,aG aD,O Y 0,aG aD,O Y 0,aG aD,O Y 0]:Array aT);generalize((w.alloc (aI #[aG aD,O Y 0,aG aD,O Y 0,aG aD,O Y 0,aG aD,O Y 0] 79)).setRow w.heap.size #[aG aD,O Y 0,aG aD,O Y 0,aG aD,O Y 0,aG aD,O Y 0])=v5 at*;go_wp2;exact bR (cD D _ _ w.heap.size _ _ _ _ D cS jD D (by kernel_rfl)) D ⟨by rw[HR.out];rfl,hb5⟩
 have hL:=xN A n c B l (w.alloc (aI #[aG aD,O Y 0,aG aD,O Y 0,aG aD,O Y 0,aG aD,O Y 0] 79)) (h.up (hb0.mono hB)) (bU hB hb0.size) (by omega);unfold Lz at hL;have HL:=bK hL;have dq: ∀(fn:Fn) (first cap:Array aT) (w:aS),(Instr.makeFunc fn first cap).run bH w= .ok (.func fn first cap) w:=fun _ _ _ _=>rfl;have HRES:=bK hres;have hok:EyOk (0,l):=fun s hs=>hl s hs;have HOK:=bK hok;have HV:Hid (zV l=(if(Gv l).2=0 then(Gv l).1 else vt0,(Gv l).2)):=bK (by unfold zV;rw[bY (by omega)])
 have hc:((n:Int)=8∧True)∨(¬(n:Int)=8∧(n:Int)=9):=by
  rcases h14 with e|e
  ·exact .inl ⟨by omega,cM⟩
  ·exact .inr ⟨by omega,by omega⟩
 clear hL hres h oJ hl hok h14;rcases hc with⟨i11,i12⟩|⟨i11,i12⟩
 all_goals
  go_enter func280,ntmps280;go_wp2_with fail;go_fit HL.out;rintro e v ⟨g,rfl,hE,oU,J8,hb⟩;clear i11 i12;have hres:=bV HRES.out hb (by simp);have hb1:=eI hb0 hb;obtain⟨a0,a1,asz,ab⟩:=yZ v (aI #[aK (aE ⟨g,0,J⟩)] 518) (aI #[aG aD,O Y 0,aG aD,O Y 0,aG aD,O Y 0,aG aD,O Y 0] 79);have hE':=hE.below ab oU;have eR:=bV hres ab (bT hres);have hb':=eI hb1 ab;have yN:=hE.lt;have WW:=bK (bO hE' (bO eR (bO hb' (bO a0 a1))));clear hE hres hb1 ab hE' eR hb' a0 a1 HRES HL hb hb0;go_wp2_with fail;obtain⟨gr,hgr⟩: ∃gr,gr=v.heap.size:=⟨_,D⟩;have yV:v.heap.size+1=gr+1:=by rw[hgr]
  rw[←hgr] at WW yN asz ⊢;obtain⟨hE,hres,hb,P4,Dh⟩:=WW.out;clear WW yV;generalize((v.alloc (aI #[aK (aE ⟨g,0,J⟩)] 518)).alloc (aI #[aG aD,O Y 0,aG aD,O Y 0,aG aD,O Y 0,aG aD,O Y 0] 79))=v0 at*;obtain⟨gm,yV⟩: ∃gm,gm=gr+1:=⟨_,D⟩;rw[←yV] at Dh ⊢;have wy:w.heap.size+1≤g:=by simpa using oU
  generalize(w.alloc (aI #[aG aD,O Y 0,aG aD,O Y 0,aG aD,O Y 0,aG aD,O Y 0] 79)).heap.size=lo at*;have ho:gr<gm∧gm<v0.heap.size:=by omega
  clear yV hgr J8 asz;go_fit(J0 _);rintro e v1 ⟨ga,rfl,ha,An,hbx⟩;have hE1:=hE.below hbx oU;have pG:=bV hres hbx (bT hres);have hr1:=bV P4 hbx (bT P4);have uP:=bV Dh hbx (bT Dh);have hb1:=eI hb hbx;clear hE hres P4 Dh hb hbx;go_wp2_with fail;go_fit(Jc gm _);rintro e v2 ⟨gb,rfl,hb2,EJ,hbx⟩;have hE2:=hE1.below hbx oU;have dQ:=bV pG hbx (bT pG);have hr2:=bV hr1 hbx (bT hr1);have oX:=bV uP hbx (bT uP);have ha2:=bV ha hbx (bT ha);have hbb:=eI hb1 hbx;have wm:=bT uP;have HC:=bK (S5 lo g gr gm ga gb (0,l) #[aG aD,O Y 0,aG aD,O Y 0,aG aD,O Y 0,aG aD,O Y 0] v2 ⟨hE2,hr2,oX,D⟩ oU yN ho.1 HOK.out ha2 hb2 (by omega) (by omega));have HK:=bK (bO dQ hbb);clear hE1 pG hr1 uP ha hb1 hbx hE2 dQ hr2 oX ha2 hbb hb2;go_wp2_with fail;go_fit HC.out;rintro e v3 ⟨rfl,⟨hE3,hr3,Kk,iJ⟩,haw⟩;have hres3:=haw.keep HK.out.1 (by omega);have hb3:=cJ HK.out.2 haw (fun k hk=>by omega);obtain⟨e1,e2,e3⟩:=BZ l;have hokx:=Iz (((0,l):kY),#[aG aD,O Y 0,aG aD,O Y 0,aG aD,O Y 0,aG aD,O Y 0]) HOK.out 4;obtain⟨C,hC⟩: ∃C,C=(uS (((0,l):kY),#[aG aD,O Y 0,aG aD,O Y 0,aG aD,O Y 0,aG aD,O Y 0]) 4).2:=⟨_,D⟩;obtain⟨st,hst⟩: ∃st,st=(uS (((0,l):kY),#[aG aD,O Y 0,aG aD,O Y 0,aG aD,O Y 0,aG aD,O Y 0]) 4).1:=⟨_,D⟩;rw[←hC] at e1 e2 e3 Kk;rw[←hst] at e3 hE3 hokx;have HCs:=bK e1;have HC1:=bK e2;have HS:=bK e3;have r0:=bL (i:=0) (v:=aK (aE ⟨g,0,J⟩)) hr3 D;have hln:=j9 lo g st v3 hE3;have HLN:=bK hln;clear HC HK haw e1 e2 e3 hC hst iJ hln;obtain⟨⟨t,s2⟩,hq⟩: ∃q,q=jA st:=⟨_,D⟩;have xU:EyOk s2:=by have:=hokx.text.2;rw[←hq] at this;exact this
  have hTX:=kA lo g st v3 hE3 oU;rw[←hq] at hTX;have HTX:=bK hTX
  have hD:(¬(0:Int)<(st.2.length:Int)∧Hid (nZ st=st))∨((0:Int)<(st.2.length:Int)∧t.size=0∧Hid (nZ st=s2))∨((0:Int)<(st.2.length:Int)∧¬t.size=0∧Hid (Sm (sb t)=aF)∧Hid (nZ st=s2))∨((0:Int)<(st.2.length:Int)∧¬t.size=0∧Hid (Sm (sb t)=aD)∧Hid (nZ st=tP s2 3)):=by
   unfold nZ;by_cases h0:st.2= []
   ·left;exact⟨by rw[h0];simp,bK (bY h0)⟩
   ·right;have hp:(0:Int)<(st.2.length:Int):=by have:st.2.length≠0:=fun e=>h0 (cU e);omega
    rw[bX h0,←hq];by_cases h1:t.size=0
    ·left;refine⟨hp,h1,bK (bY ?_)⟩;show Sk (sb t)=aF;rw[(lQ t).2 h1];rfl
    ·right
     have OD:Sk (sb t)=Sm (sb t):=by
      cases e:sb t with
      |nil=>exact absurd ((lQ t).1 e) h1
      |cons c l=>cases l<;>rfl
     cases hv:Sm (sb t) with
     |true=>left;exact⟨hp,h1,bK D,bK (bY (by show Sk (sb t)=aF;rw[OD,hv]))⟩
     |false=>right;exact⟨hp,h1,bK D,bK (bX (by show¬Sk (sb t)=aF;rw[OD,hv];decide))⟩
  clear hq hTX hokx xU;have HCP:=bK (fun w=>Rv t w);have HK:=bK (bO hr3 (bO Kk (bO hres3 hb3)));clear hr3 Kk hres3 hb3;rcases hD with⟨hp,HM⟩|⟨hp,h1,HM⟩|⟨hp,h1,HCV,HM⟩|⟨hp,h1,HCV,HM⟩;case' inl=>have hE:=hE3;clear HCP HTX;go_wp2_with fail;go_fit HLN.out;rintro e vz ⟨rfl,rfl⟩;obtain⟨sz,iJ⟩: ∃sz,sz=st:=⟨_,D⟩;rw[←iJ] at hE;have HZ:Hid ((nZ st).1=sz.1):=bK (by rw[HM.out,iJ]);obtain⟨hr,hm,hres,hb⟩:=HK.out;clear HK HM iJ HLN;go_wp2_with fail
  case' inr.inl=>
   have e0:t.toList= []:=by rw[dR];exact(lQ t).2 h1
   go_wp2_with fail;go_fit HLN.out;rintro e vx ⟨rfl,rfl⟩;go_wp2_with fail;go_fit HTX.out;rintro e vz ⟨rfl,hE,haw⟩;have hr:=haw.keep HK.out.1 (by omega);have hm:=haw.keep HK.out.2.1 (by omega);have hres:=haw.keep HK.out.2.2.1 (by omega);have hb:=cJ HK.out.2.2.2 haw (fun k hk=>by omega);clear r0 HK haw HLN HTX hp HCP h1;have r0:=bL (i:=0) (v:=aK (aE ⟨g,0,J⟩)) hr D;obtain⟨sz,iJ⟩: ∃sz,sz=s2:=⟨_,D⟩;rw[←iJ] at hE;have HZ:Hid ((nZ st).1=sz.1):=bK (by rw[HM.out,iJ]);clear HM iJ;go_wp2_with fail
  case' inr.inr.inl=>have e0:=pZ h1;go_wp2_with fail;go_fit HLN.out;rintro e vx ⟨rfl,rfl⟩;go_wp2_with fail;go_fit HTX.out;rintro e vz ⟨rfl,hE,haw⟩;have hr:=haw.keep HK.out.1 (by omega);have hm:=haw.keep HK.out.2.1 (by omega);have hres:=haw.keep HK.out.2.2.1 (by omega);have hb:=cJ HK.out.2.2.2 haw (fun k hk=>by omega);clear r0 HK haw HLN HTX hp h1;have r0:=bL (i:=0) (v:=aK (aE ⟨g,0,J⟩)) hr D;have UI:=HCP.out vz;rw[HCV.out] at UI;have HCP2:=bK UI;clear UI HCP HCV;go_wp2_with fail;go_fit HCP2.out;rintro e vx ⟨rfl,rfl⟩;obtain⟨sz,iJ⟩: ∃sz,sz=s2:=⟨_,D⟩;rw[←iJ] at hE;have HZ:Hid ((nZ st).1=sz.1):=bK (by rw[HM.out,iJ]);clear HM iJ HCP2;go_wp2_with fail
  case' inr.inr.inr=>have e0:=pZ h1;go_wp2_with fail;go_fit HLN.out;rintro e vx ⟨rfl,rfl⟩;go_wp2_with fail;go_fit HTX.out;rintro e vy ⟨rfl,hE,haw⟩;have hr:=haw.keep HK.out.1 (by omega);have hm:=haw.keep HK.out.2.1 (by omega);have hres:=haw.keep HK.out.2.2.1 (by omega);have hb:=cJ HK.out.2.2.2 haw (fun k hk=>by omega);clear r0 HK haw HLN HTX hp h1;have r0:=bL (i:=0) (v:=aK (aE ⟨g,0,J⟩)) hr D;have UI:=HCP.out vy;rw[HCV.out] at UI;have HCP2:=bK UI;clear UI HCP HCV;go_wp2_with fail;go_fit HCP2.out;rintro e vx ⟨rfl,rfl⟩;clear HCP2;go_wp2_with fail;go_fit(jL lo g 3 s2 _ hE oU);rintro e vz ⟨rfl,hE',haw⟩;have hr':=haw.keep hr (by omega);have hm':=haw.keep hm (by omega);have eR:=haw.keep hres (by omega);have hb':=cJ hb haw (fun k hk=>by omega);clear r0 hE hr hm hres hb haw;have r0:=bL (i:=0) (v:=aK (aE ⟨g,0,J⟩)) hr' D;obtain⟨sz,iJ⟩: ∃sz,sz=tP s2 3:=⟨_,D⟩;rw[←iJ] at hE';have HZ:Hid ((nZ st).1=sz.1):=bK (by rw[HM.out,iJ]);have hE:=hE';have hr:=hr';have hm:=hm';have hres:=eR;have hb:=hb';clear HM iJ hE' hr' hm' eR hb';go_wp2_with fail
  all_goals
   go_fit(zI lo g sz _ hE);rintro e vv ⟨rfl,rfl⟩;have hV:zV l=(if sz.1=0 then C.toList else vt0,sz.1):=by rw[HV.out,HS.out,HZ.out]
   have HV2:=bK hV;clear hV HV HS HZ hE r0 hr;by_cases he:sz.1=0
   ·have zZ:(sz.1:Int)=0:=by omega
    rw[bY he,he] at HV2;clear he;go_wp2_with(with_reducible refine sG [79] ?_);refine eL (dI D _ _ D gm D _ _ _ _ hm jD D (by rw[HCs.out];kernel_rfl) ?_);go_wp2_with(with_reducible refine sG [79] ?_);refine eL (bQ D _ _ _ D w.heap.size C D D _ _ hres (by rw[HCs.out];kernel_rfl) (by rw[HCs.out];rfl) HC1.out ?_);have cS:=bW _ _ _ C _ _ hres;have hb5:=cB hb (bM _) C;simp only[Act.put];repeat go_step
    exact bR (cD D _ _ w.heap.size _ _ _ _ D cS jD D (by rw[HCs.out];kernel_rfl)) D ⟨by rw[HV2.out];rfl,hb5⟩
   ·have zZ: ¬(sz.1:Int)=0:=by omega
    rw[bX he] at HV2;clear he hm;go_wp2_with(with_reducible refine sG [79] ?_);refine eL (bQ D _ _ _ D w.heap.size #[aG aD,O Y 0,aG aD,O Y 0,aG aD,O Y 0,aG aD,O Y 0] D D _ _ hres (by kernel_rfl) D (by kernel_rfl) ?_);have cS:=bW _ _ _ (#[aG aD,O Y 0,aG aD,O Y 0,aG aD,O Y 0,aG aD,O Y 0]:Array aT) _ _ hres;have hb5:=cB hb (bM _) (#[aG aD,O Y 0,aG aD,O Y 0,aG aD,O Y 0,aG aD,O Y 0]:Array aT);simp only[Act.put];repeat go_step
    exact bR (cD D _ _ w.heap.size _ _ _ _ D cS jD D (by kernel_rfl)) D ⟨by rw[HV2.out];rfl,hb5⟩
end
end Go.Proofs.YtfoabhdppkjmbaaGreat
