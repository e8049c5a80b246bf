/-
  Part 16 of the proof: what the machine does and what the functions answer.
  Conditions: those that each lemma names.
-/
import Derived.Shelf.Spec.SlicesInsertGrow
import Derived.Shelf.Slices.Delete
import Derived.Test.YtiophifnkakjgaaGreatSGzC3O
set_option linter.unusedSimpArgs false
set_option linter.unusedVariables false
set_option maxRecDepth 100000
set_option maxHeartbeats 20000000
namespace Gv
open Go Go.Proofs
def lp:SC :=
 ai [af [aZ 21 .lss 20 19],cp 21 (.exit 0),.block 1 (ai [af [aa 22 20,aa 7 22],af [bj 24 5 2,aa 25 5,aa 26 6,aa 27 7,aT 28 80 [24,25,26,27],aa 23 28,dO 29 0 23,dO 30 1 23,aa 8 29,aa 9 30],af [aa 31 9],bf 31 (af [aa 32 4,aa 33 8,((some 34),.op (.bS 1 1 [(.emp 1)] [(0,(.tmp 33))])),iR 35 1 24 32 34,aa 4 35])]),af [aF 36 .add 20 1,aa 20 36]]
def mo:SF:=⟨ai [af [cJ 2 0,cJ 3 1,b7 4 1],af [ay 12 2 3,au 13 12,ay 14 1 3,au 15 14,aa 5 13,aa 6 15],ai [af [ay 16 0 2,ay 17 0 16,au 18 17,aQ 19 18,bb 20 0],cz 0 lp],ai [af [aa 37 6,aa 38 5,aQ 39 38,aZ 40 .lss 37 39],bf 40 (ai [af [aa 41 5,aT 42 140 [41],aa 43 6,aa 44 6,aF 45 .add 44 1,aT 46 144 [42,43,45],aa 10 46],af [bj 47 5 2,aa 48 10,aT 49 141 [47,48]],bf 49 (af [aa 50 4,aa 51 10,((some 52),.op (.bS 1 1 [(.emp 1)] [(0,(.tmp 51))])),iR 53 1 24 50 52,aa 4 53])])],ai [af [aa 54 5,aa 55 6,((some 56),.op (.slice 1 (.tmp 54) none (some (.tmp 55)))),aT 57 140 [56],aa 11 57],.region false [⟨none,[aa 58 6,aF 59 .add 58 1,aa 60 5,aQ 61 60,aZ 62 .lss 59 61,aa 63 62]⟩,⟨(some (63,true)),[bj 64 5 2,aa 65 11,aT 66 141 [64,65]]⟩,⟨none,[fe 67 63 66]⟩],bf 67 (af [aa 68 4,aa 69 11,((some 70),.op (.bS 1 1 [(.emp 1)] [(0,(.tmp 69))])),iR 71 1 24 68 70,aa 4 71])],af [aa 72 4,aa 4 72],.ret],
 [.tmp 4],73⟩
theorem rz:aG Tryz.prog 83 [2,3]=some mo:=by kernel_rfl
def tE (H:View) (v:V) (l:List Int):Prop:=v=encI l∨aH H v 1 (aM l)
def fD (H:View) (u:V) (out:List (List Int)):Prop:=∃ S:List (V × List Int),S.map (·.2)=out/\aH H u 1 (S.map λx=>[x.1])/\∀ x∈S,tE H x.1 x.2/\∀ id,owner x.1=some id->owner u≠some id
theorem tE.keep {H H':View} {v:V} {l:List Int} (h:tE H v l) (hk:∀ id,H id≠.dead->owner v=some id->H' id=H id):tE H' v l:=by
 rcases h with h | h
 .exact .inl h
 .exact .inr (h.keep λid a=>hk id (by rw[(h.live a).1];simp) a)
theorem tE.live {H:View} {v:V} {l:List Int} (h:tE H v l) {id:Nat} (a:owner v=some id):H id≠.dead:=by
 rcases h with rfl | h
 .simp[owner,encI] at a
 .rw[(h.live a).1];simp
theorem tE.ok {H:View} {v:V} {l:List Int} (h:tE H v l):aE v=true:=by
 rcases h with rfl | h
 .rfl
 .exact h.fF
theorem fD.nil {H:View} : fD H (.emp 1) []:=⟨[],rfl,.nil,by simp⟩
theorem fD.stay {H H':View} {u:V} {out:List (List Int)} (h:fD H u out) (b:ke H H'):fD H' u out:=by
 obtain⟨S,h1,c,d⟩:=h
 exact⟨S,h1,c.keep λid a=>b id (by rw[(c.live a).1];simp),λx e=>⟨(d x e).1.keep λid f _=>b id f,(d x e).2⟩⟩
theorem fD.app {H:View} {u v:V} {out:List (List Int)} {w:List Int} {K:V->View->Prop} {z:ct (H,K)} (h:fD H u out) (e:tE H v w) (d:∀ id,owner v=some id->owner u≠some id) (k:out.length<=100000)
  (hk:∀ u' H',fD H' u' (out ++ [w])->K u' H'):nS 1 24 u [[v]] H K z:=by
 obtain⟨S,h1,g,i⟩:=h
 have l:S.length=out.length:=by rw[<-h1];simp
 refine kT g (by simp) (by simp[e.ok]) (by unfold aD;simp;omega) (by unfold aD;simp;omega) λu' H' j f=>hk u' H' ⟨S ++ [(v,w)],by simp[h1],by simpa using j,λx c=>?_⟩
 have a:tE H x.1 x.2/\∀ id,owner x.1=some id->owner u≠some id:=by
  rcases WN.1 c with c | c
  .exact i x c
  .simp at c;subst c;exact⟨e,d⟩
 exact⟨a.1.keep λid d b=>(f id d (a.2 id b)).1,λid b=>(f id (a.1.live b) (a.2 id b)).2⟩
theorem fD.fr {h:Heap} {u:V} {out:List (List Int)} (c:fD h.view u out):Fr h u (Cn out):=by
 obtain⟨S,h1,d,f⟩:=c
 subst h1
 rcases d with ⟨e,k,rfl⟩ | ⟨n,rfl,g⟩
 .have:S=[]:=List.map_eq_nil_iff.1 e
  subst this
  exact .emp k
 .refine .sl n 0 _ 1 1 _ _ g (by simp) (by simp) (λi hi=>?_) (λi j hi b=>?_)
  .simp only[WG] at hi
   simp[Wo,hi]
  .simp only[WG] at hi
   have a:j=0:=by
    simp[Wo,hi] at b
    exact b
   subst a
   have l:=(f S[i] (WA _)).1
   simp only[Wo,Xk,Ww,Wp hi,WL,WJ,WX]
   rcases l with e | e
   .rw[e];exact .tree _ (aX _)
   .exact cg.kE e h rfl
theorem ke.fresh {H H1:View} {u:V} (h:cM H H1 u):ke H H1:=λid a=>(h id a).1
theorem ke.left {H H1 d:View} {u r:V} (h1:cM H H1 u) (e:Left H1 d u r):ke H d:=λid c=>by
 obtain⟨a,b⟩:=h1 id c
 exact((e id (by rw[a];exact c) b).1).trans a
theorem fD.off {H H1:View} {u v:V} {out:List (List Int)} (h:fD H u out) (h1:cM H H1 v):∀ id,owner v=some id->owner u≠some id:=λid a hu=>by
 obtain⟨S,_,b,_⟩:=h
 exact(h1 id (by rw[(b.live hu).1];simp)).2 a
theorem fD.VA {H H1 e:View} {u v r:V} {out:List (List Int)} (h:fD H u out) (h1:cM H H1 v) (f:Left H1 e v r):∀ id,owner r=some id->owner u≠some id:=λid c hu=>by
 obtain⟨S,_,g,_⟩:=h
 have d:H id≠.dead:=by rw[(g.live hu).1];simp
 obtain⟨a,b⟩:=h1 id d
 exact(f id (by rw[a];exact d) b).2 c
theorem Jw (hI:zq) (hD:MG) (g:ag) (hg:g.Ok) (hs:g.Small) (hT:g.an.length<=1000) (m:Int) (b:im) (b1:b.word.length<=100) (b2:0<=b.len/\b.len<=b.word.length) (b3:∀ x∈b.word,ba x) (ab:ba b.state)
  (h0:∀ x:List Int,(∀ y∈x,y∈b.word∨(0<=y/\y < g.an.length))->(x.length:Int)<=m->(j7 g x).2=0) :
  az Tryz.prog 83 [.agg (iK g m),.agg (kP b)] (Cn (nB g b m)):=by
 refine az.of (by
  intro v N;simp at N
  rcases N with rfl | rfl
  .exact gM g m
  .exact cX _ λv N=>by
    simp[kP] at N
    rcases N with rfl | rfl | rfl
    .exact .val _
    .exact .val _
    .exact aX _) ?_
 obtain⟨p,hp⟩:∃ p:Nat,b.len=p:=⟨b.len.toNat,by omega⟩
 have w:=λ(t:Nat) (ht:t < g.an.length)=>QI hI g hg hs m b.word b1 b3 p (by omega) t (by unfold ba;omega) (λx W hl=>h0 x (λy E=>(W y E).imp id λe=>by omega) hl)
 have z:=λ(x:List Int) (W:∀ y∈x,y∈b.word) (hl:x.length<=100)=>KF g hg hs x (by unfold aC;omega) (λy E=>b3 y (W y E)) m (h0 x λy E=>.inl (W y E))
 have O:=λt=>yF g b m t
 have P:=Im g b m
 unfold nB
 rw[show b.len.toNat=p by omega] at *
 have a:cT (encI b.word)=some b.word.length:=by simp[cT,encI]
 have I:cY 1 (encI b.word) none (some (gi p))=some (encI (b.word.take p),.none,[]):=wC (l:=b.word) (k:=p) (by omega)
 refine ao.of mixed rz ?_
 have Q:aE (encI b.word)=true:=rfl
 simp(disch:=omega)only[↓wr,seval,wq,mo,iK,encS,kP,Q]
 refine bk.up g.an.length (λt T H'=>∃ u,fD H' u (qD g b m t)/\T 2=.aN (iK g m) 0/\T 4=u/\T 5=encI b.word/\T 6=gi p/\T 19=gi g.an.length/\T 20=gi t) ⟨.emp 1,by simpa [qD] using fD.nil,rfl,rfl,rfl,by show gi b.len=_;rw[hp],rfl,rfl⟩ ?_
 rintro t kt T H1 R ⟨u,o,t2,t4,t5,t6,t19,t20⟩
 simp(disch:=omega)only[↓wr,seval,wq,lp,t2,t4,t5,t6,t19,t20,iK,encS]
 have X:=P t
 apply aj.dec<;>intro hc
 .have h3:=w t (by omega)
  have F:=O t
  generalize iN g b.word p t m=x at *
  simp only[iK,encS] at h3
  simp(disch:=omega)only[↓wr,seval,wq,t2,t4,t5,t6,t19,t20,iK,encS,Q]
  refine aq.pure h3 ?_
  simp(disch:=omega)only[↓wr,seval,wq,t2,t4,t5,t6,t19,t20,HH]
  apply aj.split<;>intro J
  .rw[Wv J] at F
   simp(disch:=omega)only[↓wr,seval,wq,t2,t4,t5,t6,t19,t20]
   intro q s
   simp(disch:=omega)only[↓wr,seval,wq,t4,bY]
   refine fD.app (o.stay ((ke.refl _).set s)) (.inl rfl) (λid Y=>by simp[owner,encI] at Y) (by omega) ?_
   intro u3 H3 S
   simp(disch:=omega)only[↓wr,seval,wq,t2,t4,t5,t6,t19,t20]
   exact aJ R (by omega) ⟨u3,by rw[F];exact S,t2,rfl,t5,t6,t19,rfl⟩
  .rw[Ws (by rw[J];simp),Xe] at F
   simp(disch:=omega)only[↓wr,seval,wq,t2,t4,t5,t6,t19,t20]
   exact aJ R (by omega) ⟨u,by rw[F];exact o,t2,t4,t5,t6,t19,rfl⟩
 obtain rfl:t=g.an.length:=by omega
 have A:=z (ey b.word p 1 []) (λy E=>(DD E).elim id (λh=>by simp at h)) (by unfold ey;simp;omega)
 have f:=z (b.word.take p) (λy E=>Yq E) (by simp;omega)
 clear z w O P
 generalize qD g b m g.an.length=D at o X ⊢
 simp only[iK,encS] at A f
 simp(disch:=omega)only[↓wr,seval,wq,t2,t4,t5,t6,t19,t20,a]
 apply aj.dec<;>intro d1
 .simp(disch:=omega)only[↓wr,seval,wq,t2,t4,t5,t6,a]
  refine aq.bX ((qf b.word (by omega) (encI b.word) _ (.inl rfl)).mono ?_)
  rintro v H2 ⟨ov,fv⟩
  have Z:=ov.fF
  simp(disch:=omega)only[↓wr,seval,wq,t2,t4,t5,t6,a,Z]
  refine aq.bX ((hD _ v b.word p ov (by omega) (by omega)).mono ?_)
  rintro r H3 ⟨or,lr⟩
  have K:=or.fF
  have L:=or.cells
  have U:=o.VA fv lr
  have S:=o.stay (ke.left fv lr)
  simp(disch:=omega)only[↓wr,seval,wq,t2,t4,t5,t6,a,K,L,iK,encS]
  refine aq.tQ A (by kernel_rfl) (.val _) ⟨.tree (gM g m),.kE or,trivial⟩ ?_
  simp(disch:=omega)only[↓wr,seval,wq,t2,t4,t5,t6,a,K,L]
  apply aj.split<;>intro M
  .simp(disch:=omega)only[↓wr,seval,wq,t2,t4,t5,t6,a,K,L]
   intro q s
   simp(disch:=omega)only[↓wr,seval,wq,t4,bY]
   refine fD.app (S.stay ((ke.refl _).set s)) (.inr (or.fresh s)) U (by omega) ?_
   intro u4 H4 o4
   simp(disch:=omega)only[↓wr,seval,wq,t2,t4,t5,t6,a,I]
   refine aq.bX ((qf (b.word.take p) (by simp;omega) (encI (b.word.take p)) _ (.inl rfl)).mono ?_)
   rintro y H5 ⟨n,G⟩
   have c:=n.fF
   have d:=n.cells
   have i:=o4.off G
   have B:=o4.stay (ke.fresh G)
   simp(disch:=omega)only[↓wr,seval,wq,t2,t4,t5,t6,a,c,d]
   apply aj.dec<;>intro d2
   .simp(disch:=omega)only[↓wr,seval,wq,t2,t4,t5,t6,a,c,d,iK,encS]
    refine aq.tQ f (by kernel_rfl) (.val _) ⟨.tree (gM g m),.kE n,trivial⟩ ?_
    simp(disch:=omega)only[↓wr,seval,wq,t2,t4,t5,t6,a,c,d]
    apply aj.split<;>intro C
    .simp(disch:=omega)only[↓wr,seval,wq,t2,t4,t5,t6,a,c,d]
     intro q s
     simp(disch:=omega)only[↓wr,seval,wq,t4,bY]
     refine fD.app (B.stay ((ke.refl _).set s)) (.inr (n.fresh s)) i (by first | omega | (simp;omega)) ?_
     intro u6 H6 V
     simp(disch:=omega)only[↓wr,seval,wq,t2,t4,t5,t6]
     intro H j
     rw[Wv (⟨by omega,M⟩:b.len < b.word.length/\_),Wv (⟨by omega,C⟩:b.len+1 < b.word.length/\_)]
     exact fD.fr (j ▸ V)
    .simp(disch:=omega)only[↓wr,seval,wq,t2,t4,t5,t6,a]
     intro H j
     rw[Wv (⟨by omega,M⟩:b.len < b.word.length/\_),Ws (λh=>by rw[C] at h;simp at h),Xe]
     exact fD.fr (j ▸ B)
   .simp(disch:=omega)only[↓wr,seval,wq,t2,t4,t5,t6,a]
    intro H j
    rw[Wv (⟨by omega,M⟩:b.len < b.word.length/\_),Ws (λh=>by omega),Xe]
    exact fD.fr (j ▸ B)
  .simp(disch:=omega)only[↓wr,seval,wq,t2,t4,t5,t6,a,I]
   refine aq.bX ((qf (b.word.take p) (by simp;omega) (encI (b.word.take p)) _ (.inl rfl)).mono ?_)
   rintro y H5 ⟨n,G⟩
   have c:=n.fF
   have d:=n.cells
   have i:=S.off G
   have B:=S.stay (ke.fresh G)
   simp(disch:=omega)only[↓wr,seval,wq,t2,t4,t5,t6,a,c,d]
   apply aj.dec<;>intro d2
   .simp(disch:=omega)only[↓wr,seval,wq,t2,t4,t5,t6,a,c,d,iK,encS]
    refine aq.tQ f (by kernel_rfl) (.val _) ⟨.tree (gM g m),.kE n,trivial⟩ ?_
    simp(disch:=omega)only[↓wr,seval,wq,t2,t4,t5,t6,a,c,d]
    apply aj.split<;>intro C
    .simp(disch:=omega)only[↓wr,seval,wq,t2,t4,t5,t6,a,c,d]
     intro q s
     simp(disch:=omega)only[↓wr,seval,wq,t4,bY]
     refine fD.app (B.stay ((ke.refl _).set s)) (.inr (n.fresh s)) i (by first | omega | (simp;omega)) ?_
     intro u6 H6 V
     simp(disch:=omega)only[↓wr,seval,wq,t2,t4,t5,t6]
     intro H j
     rw[Ws (λh=>by rw[M] at h;simp at h),Xe,Wv (⟨by omega,C⟩:b.len+1 < b.word.length/\_)]
     exact fD.fr (j ▸ V)
    .simp(disch:=omega)only[↓wr,seval,wq,t2,t4,t5,t6,a]
     intro H j
     rw[Ws (λh=>by rw[M] at h;simp at h),Xe,Ws (λh=>by rw[C] at h;simp at h),Xe]
     exact fD.fr (j ▸ B)
   .simp(disch:=omega)only[↓wr,seval,wq,t2,t4,t5,t6,a]
    intro H j
    rw[Ws (λh=>by rw[M] at h;simp at h),Xe,Ws (λh=>by omega),Xe]
    exact fD.fr (j ▸ B)
 .simp(disch:=omega)only[↓wr,seval,wq,t2,t4,t5,t6,a,I]
  refine aq.bX ((qf (b.word.take p) (by simp;omega) (encI (b.word.take p)) _ (.inl rfl)).mono ?_)
  rintro y H5 ⟨n,G⟩
  have c:=n.fF
  have d:=n.cells
  have i:=o.off G
  have B:=o.stay (ke.fresh G)
  simp(disch:=omega)only[↓wr,seval,wq,t2,t4,t5,t6,a,c,d]
  apply aj.dec<;>intro d2
  .simp(disch:=omega)only[↓wr,seval,wq,t2,t4,t5,t6,a,c,d,iK,encS]
   refine aq.tQ f (by kernel_rfl) (.val _) ⟨.tree (gM g m),.kE n,trivial⟩ ?_
   simp(disch:=omega)only[↓wr,seval,wq,t2,t4,t5,t6,a,c,d]
   apply aj.split<;>intro C
   .simp(disch:=omega)only[↓wr,seval,wq,t2,t4,t5,t6,a,c,d]
    intro q s
    simp(disch:=omega)only[↓wr,seval,wq,t4,bY]
    refine fD.app (B.stay ((ke.refl _).set s)) (.inr (n.fresh s)) i (by first | omega | (simp;omega)) ?_
    intro u6 H6 V
    simp(disch:=omega)only[↓wr,seval,wq,t2,t4,t5,t6]
    intro H j
    rw[Ws (λh=>by omega),Xe,Wv (⟨by omega,C⟩:b.len+1 < b.word.length/\_)]
    exact fD.fr (j ▸ V)
   .simp(disch:=omega)only[↓wr,seval,wq,t2,t4,t5,t6,a]
    intro H j
    rw[Ws (λh=>by omega),Xe,Ws (λh=>by rw[C] at h;simp at h),Xe]
    exact fD.fr (j ▸ B)
  .simp(disch:=omega)only[↓wr,seval,wq,t2,t4,t5,t6,a]
   intro H j
   rw[Ws (λh=>by omega),Xe,Ws (λh=>by omega),Xe]
   exact fD.fr (j ▸ B)
def sH:SC :=
 ai [af [aZ 42 .lss 41 40],cp 42 (.exit 2),.block 3 (ai [af [aY 43 1 39 41,au 44 43,aa 12 44],af [aa 45 8,ay 46 0 10,au 47 46,aa 48 12,((some 49),.op (.build [(.val (.int .i64 0)),(.val (.int .i64 0)),(.emp 1)] [(0,1,(.val (.val (.int .i64 2)))),(1,1,(.tmp 47)),(2,1,(.tmp 48))])),((some 50),.op (.bS 1 3 [(.val (.int .i64 0)),(.val (.int .i64 0)),(.emp 1)] [(0,(.tmp 49))])),iR 51 3 40 45 50,aa 8 51]]),af [aF 52 .add 41 1,aa 41 52]]
def sD:SC :=
 ai [af [aZ 32 .lss 31 30],cp 32 (.exit 0),.block 1 (ai [af [aY 33 3 29 31,bj 34 3 33,((some 10),.op (.alloc [(.val (.int .i64 0)),(.val (.int .i64 0)),(.emp 1)])),df 3 10 34],ai [af [bj 35 4 2,aa 36 1,((some 37),.op (.build [(.emp 1),(.emp 1),(.emp 1),(.val (.int .i64 0)),(.val (.int .i64 0))] [(0,4,(.tmp 35)),(4,1,(.tmp 36))])),bj 38 3 10,aT 39 83 [37,38],aQ 40 39,bb 41 0],cz 2 sH],af [aa 53 8,aQ 54 53,aF 55 .gtr 54 2000],bf 55 (ai [af [b7 4 1,bb 5 13],.ret])]),af [aF 56 .add 31 1,aa 31 56]]
def xp:SF:=⟨ai [af [cJ 2 0,b7 4 1,bb 5 0],ai [.region false [⟨none,[bj 13 4 2,aT 14 82 [13],cW 15 14,aa 16 15]⟩,⟨(some (16,false)),[aa 17 1,aT 18 79 [17],cW 19 18]⟩,⟨none,[b6 20 16 19]⟩],bf 20 (ai [af [b7 4 1,bb 5 1],.ret])],af [bj 22 4 2,aT 23 28 [22],aa 21 23,dO 24 0 21,dO 25 1 21,aa 6 24,aa 7 25],ai [af [aa 26 7,aF 27 .neq 26 0],bf 27 (ai [af [aa 28 7,b7 4 1,aa 5 28],.ret])],af [b7 8 1],ai [af [aa 29 6,aQ 30 29,bb 31 0],cz 0 sD],af [aa 57 8,aa 4 57,bb 5 0],.ret],
 [.tmp 4,.tmp 5],58⟩
theorem A3:aG Tryz.prog 41 [2]=some xp:=by kernel_rfl
theorem Rw (W:zq) (X:MG) (g:ag) (G:g.Ok) (H:g.Small) (m:Int) (S:∀ b∈(dF g).1,b.word.length<=100/\(0<=b.len/\b.len<=b.word.length)/\(∀ x∈b.word,ba x)/\ba b.state) (Y:(dF g).1.length<=1000) (Z:g.an.length<=1000)
  (B:m<=60->∀ b∈(dF g).1,∀ x:List Int,(∀ y∈x,y∈b.word∨(0<=y/\y < g.an.length))->(x.length:Int)<=m->(j7 g x).2=0) :
  az Tryz.prog 41 [.agg (ak g),gi m] (CT (pO g m)):=by
 refine az.of (by
  intro v D;simp at D
  rcases D with rfl | rfl
  .exact eR g _ (by simp)
  .exact .val _) ?_
 have h1:=NI g G H
 have I:=O0 g G H
 have U:=JR m
 have bad:¬ (isRed g=true/\0<=m/\m<=60)->∀ h:Heap,Fr h (.aO [.emp 1,gi 1]) (CT (pO g m)):=λJ h=>by
  unfold pO
  rw[Ws J]
  exact B5 (.emp 1)
 refine ao.of mixed A3 ?_
 simp only[ak,encS] at h1 I
 simp(disch:=omega)only[↓wr,seval,wq,xp,ak,encS]
 refine aq.pure h1 ?_
 simp(disch:=omega)only[↓wr,seval,wq,ak,encS]
 apply aj.split<;>intro hi
 rotate_left
 .simp(disch:=omega)only[↓wr,seval,wq]
  exact λn _=>bad (λh=>by rw[hi] at h;simp at h) n
 simp(disch:=omega)only[↓wr,seval,wq]
 refine aq.pure U ?_
 simp(disch:=omega)only[↓wr,seval,wq]
 apply aj.split<;>intro hm
 rotate_left
 .simp(disch:=omega)only[↓wr,seval,wq]
  exact λn _=>bad (λh=>by
   rw[Xc h.2.1,Xc h.2.2] at hm
   simp at hm) n
 rw[WC,WH,WH] at hm
 simp(disch:=omega)only[↓wr,seval,wq,ak,encS]
 refine aq.pure I ?_
 have r:pO g m=if (dF g).2≠0 then ([],(dF g).2) else if 2000 < ((dF g).1.flatMap (ic g m)).length then ([],13) else ((dF g).1.flatMap (ic g m),0):=by
  unfold pO
  rw[Wv ⟨hi,hm⟩]
 rw[r]
 have B:=B hm.2
 clear bad r h1 I U
 generalize dF g=x at *
 obtain⟨l,e⟩:=x
 simp only at S Y B
 simp(disch:=omega)only[↓wr,seval,wq,LY]
 apply aj.ne<;>intro he
 .rw[Wv he]
  simp(disch:=omega)only[↓wr,seval,wq]
  exact λn _=>B5 (.emp 1)
 rw[Ws (λh=>h he)]
 simp(disch:=omega)only[↓wr,seval,wq]
 refine bk.up l.length (λi T H'=>∃ u,aH H' u 3 (((l.take i).flatMap (ic g m)).map xX)/\((l.take i).flatMap (ic g m)).length<=2000/\T 1=gi m/\T 2=.aN (ak g) 0/\T 8=u/\T 29=.aL (l.map kP)/\T 30=gi l.length/\T 31=gi i) ⟨.emp 1,.nil,by simp,rfl,rfl,rfl,rfl,rfl,rfl⟩ ?_
 rintro i k T H1 hk ⟨u,a,K,t1,t2,t8,t29,t30,t31⟩
 simp(disch:=omega)only[↓wr,seval,wq,sD,t1,t2,t8,t29,t30,t31]
 apply aj.dec<;>intro J
 rotate_left
 .obtain rfl:i=l.length:=by omega
  rw[X0] at *
  rw[Ws (by omega)]
  simp(disch:=omega)only[↓wr,seval,wq,t1,t2,t8]
  exact λn hh=>B5 (cg.own a (λe he v D=>by
   obtain⟨c,_,rfl⟩:=WQ.1 he
   exact PI c v D) n hh)
 have E:l[i]?=some (l[i]'(by omega)):=Wp (by omega)
 have d:=WI E
 have o:(l.take (i+1)).flatMap (ic g m)=(l.take i).flatMap (ic g m) ++ ic g m (l[i]'(by omega)):=by
  rw[WY,E,List.flatMap_append];simp
 have V:((l.take (i+1)).flatMap (ic g m)).length<=(l.flatMap (ic g m)).length:=by
  have:=XG List.length (XG (List.flatMap (ic g m)) (Yo (i+1) l))
  rw[List.flatMap_append,WO] at this
  omega
 generalize l[i]'(by omega)=b at E d o
 obtain⟨b1,b2,b3,b5⟩:=S b d
 have p:=Jw W X g G H Z m b b1 b2 b3 b5 (B b d)
 have s:ic g m b=St b.state (nB g b m):=rfl
 have L:=Ry g b m
 generalize nB g b m=M at p s L
 generalize (l.take i).flatMap (ic g m)=C at a K o
 have N:aE (encI b.word)=true:=rfl
 simp only[iK,encS,kP] at p
 simp(disch:=omega)only[↓wr,seval,wq,t1,t2,t8,t29,t30,t31,Ww,E,WL,kP,ak,encS,N]
 intro y O
 refine aq.pure p ?_
 have f:owner u≠some y:=a.ne O
 simp(disch:=omega)only[↓wr,seval,wq,t1,t2,t8,t29,t30,t31,Cn]
 refine bk.up M.length (λj T H'=>∃ u,aH H' u 3 ((C ++ St b.state (M.take j)).map xX)/\H' y=.arr 3 [kP b]/\owner u≠some y/\T 1=gi m/\T 2=.aN (ak g) 0/\T 8=u/\T 10=.ptr y 0 0/\T 29=.aL (l.map kP)/\T 30=gi l.length/\T 31=gi i/\T 39=Cn M/\T 40=gi M.length/\T 41=gi j)
  ⟨u,by simpa using (a.fresh O).other f,(by simp[View.set];rfl),f,t1,t2,t8,rfl,t29,t30,t31,rfl,rfl,rfl⟩ ?_
 clear a f O t1 t2 t8 t29 t30 t31
 rintro j kj T H2 P ⟨u,a,F,f,t1,t2,t8,t10,t29,t30,t31,t39,t40,t41⟩
 simp(disch:=omega)only[↓wr,seval,wq,sH,t1,t2,t8,t10,t29,t30,t31,t39,t40,t41]
 apply aj.dec<;>intro Q
 .have hw:M[j]?=some (M[j]'(by omega)):=Wp (by omega)
  have t:M.take (j+1)=M.take j ++ [M[j]'(by omega)]:=by rw[WY,hw];rfl
  generalize M[j]'(by omega)=w at hw t
  simp(disch:=omega)only[↓wr,seval,wq,t1,t2,t8,t10,t29,t30,t31,t39,t40,t41,Cn,Ww,hw,WL,F,kP,encI]
  intro q R
  have z:q≠y:=by rintro rfl;rw[F] at R;simp at R
  simp(disch:=omega)only[↓wr,seval,wq,t8,bY]
  refine kT (a.fresh R) (by simp) (by simp[aE]) (by unfold aD;simp;omega) (by unfold aD;simp;omega) λu' H' h4 h5=>?_
  simp(disch:=omega)only[↓wr,seval,wq,t1,t2,t8,t10,t29,t30,t31,t39,t40,t41]
  have A:=h5 y (by simp[View.set,Ne.symm z,F]) f
  refine aJ P (by omega) ⟨u',?_,(by rw[A.1];simp[View.set,Ne.symm z,F];rfl),A.2,t1,t2,rfl,t10,t29,t30,t31,t39,t40,rfl⟩
  rw[t,VF]
  exact h4
 obtain rfl:j=M.length:=by omega
 rw[X0] at a
 rw[<-s,<-o] at a
 have hlen:=a.len
 rw[WG] at hlen
 simp(disch:=omega)only[↓wr,seval,wq,t1,t2,t8,t29,t30,t31,hlen]
 apply aj.dec<;>intro hb
 .rw[Wv (by omega)]
  simp(disch:=omega)only[↓wr,seval,wq]
  exact λn _=>B5 (.emp 1)
 .simp(disch:=omega)only[↓wr,seval,wq,t1,t2,t8,t29,t30,t31]
  exact aJ hk (by omega) ⟨u,a,by omega,t1,t2,t8,t29,t30,rfl⟩
open Go Go.Lib
theorem AI {P:Program} (w:World) (z F e:TypeId) (A:P.underlying z=some (.slice e)) (size:Nat) (B:∀ w,(Go.sizeOf e).run P w=.ok size w) (q:size≠0)
  (a b:Addr) (C G:Nat) (r:C≠0) (g:a.block≠b.block) (H I:TypeId) (m n:Nat)
  (h:w.shape? a.block=some (H,m)) (i:w.shape? b.block=some (I,n)) (D:m≠0) (s:n≠0)
  (j:w.frozen? a=false) (t:w.frozen? b=false) :
  ∃ o E,(E=w∨E=w.drew)/\∀ p u,p≠0->(Extern.SlicesOverlaps.overlaps #[z,z] #[F] #[.slice (some a) C G,.slice (some b) p u]).run P w=.ok (.bool o) E:=by
 cases k:w.frozen? { block:=a.block,off:=m } with
 | false=>exact⟨false,w,.inl rfl,λp u _=>run_overlaps_apart w z F e A size B a b C G p u g H I m n h i s j k⟩
 | true =>
  have v:(a.block != b.block)=true:=by simpa using g
  have c:(a.block == b.block)=false:=by simpa using g
  have y:∀ (x:TypeDesc) (f:TypeDesc->Sem Value),Sem.bind (pure x) f=f x:=λ_ _=>rfl
  cases n with
  | zero=>exact absurd rfl s
  | succ n =>
   cases m with
   | zero=>exact absurd rfl D
   | succ m =>
    cases d:w.frozen? { block:=b.block,off:=n+1 } with
    | false =>
     refine⟨false,w,.inl rfl,λp u l=>?_⟩
     conv=>lhs;arg 2;whnf
     simp[Sem.bind,y,A,B,r,l,q,v,c,frozen,noView,viewAt,mayBeOne,stringish,shape,Sem.run,h,i,j,t,k,d]
    | true =>
     exact⟨_,w.drew,.inr rfl,λp u l=>by
      conv=>lhs;arg 2;whnf
      simp[Sem.bind,y,A,B,r,l,q,v,c,frozen,noView,viewAt,mayBeOne,stringish,shape,choose,Sem.run,h,i,j,t,k,d]
      rfl⟩
open Go Go.Lib Go.Proofs Go.Shelf Go.RowKit
theorem I1 {P:Program} {ρ:Ren} (L:Lays2.n21 P ρ) (b off n c i vb voff m vc:Nat) (vs:List Value) (w W0:World) (hi:i < n) (hm:0 < m) (hroom:n+m<=c) (hc63:n+m<=9223372036854775807) (hvb:vb≠b)
  (hvl:vs.length=m) (hsp:∀ j,j < n+m->(w.cell? ⟨b,off+j,none⟩).isSome=true) (hfz:∀ j,j < n+m->w.frozen? ⟨b,off+j,none⟩=false)
  (hvs:∀ j v,vs[j]?=some v->w.cell? ⟨vb,voff+j,none⟩=some v) (h1v:∀ v∈vs,v.oneCell'=true)
  (hov:∀ lb cb,lb≠0->(callFunc (ρ.f 27) #[.slice (some ⟨vb,voff,none⟩) m vc,.slice (some ⟨b,off+(i+m),none⟩) lb cb]).run P w=.ok (.value (.bool true)) W0)
  (hW:∀ x,W0.cell? x=w.cell? x) (hF:∀ x,W0.frozen? x=w.frozen? x) (Q:World->Prop)
  (hrot:Calls P (ρ.f 28) #[.slice (some ⟨b,off+i,none⟩) (n+m - i) (c - i),.int .i64 m] (W0.setCells b (off+n) vs) λe w'=>(∃ x,e=.returned x)/\Q w')
  (hrot2:Calls P (ρ.f 28) #[.slice (some ⟨b,off+i,none⟩) (n+m - i) (c - i),.int .i64 m] (W0.drew.setCells b (off+n) vs) λe w'=>(∃ x,e=.returned x)/\Q w') :
  Calls P (ρ.f 21) #[.slice (some ⟨b,off,none⟩) n c,.int .i64 i,.slice (some ⟨vb,voff,none⟩) m vc] w λe w' =>
   e=.returned (.slice (some ⟨b,off,none⟩) (n+m) c)/\Q w':=by
 have t0:=L.t0;have a0:=L.a0;have z0:=L.z0;have v0:=L.v0;have t3:=L.t3;have a3:=L.a3;have z3:=L.z3;have v3:=L.v3;have t4:=L.t4;have a4:=L.a4;have z4:=L.z4;have v4:=L.v4;have t22:=L.t22;have a22:=L.a22;have z22:=L.z22;have v22:=L.v22
 have u0:=run_underlying L.t0;have u3:=run_underlying L.t3;have u4:=run_underlying L.t4;have u22:=run_underlying L.t22
 have e28:∀ args w,(callFunc (ρ.f 28) args).run P w=.ok (.enter (ρ.f 28) args) w:=enters_of L.f28 (by kernel_rfl) rfl
 have hz1:¬ ((m:Int)=0):=by omega
 have hz2:¬ ((i:Int)=(n:Int)):=by omega
 have hsz:(P.info? (ρ.t 3)).map (·.size)=some 1:=by
  obtain⟨i0,hi0,h0,h1,h2⟩:=info_parts L.i3
  rw[hi0];simp[h1]
 have mixed:=L.mixed
 have hw1:IntKind.i64.wrap ((i:Int)+(m:Int))=(i:Int)+(m:Int):=by rw[IntKind.wrap_i64];omega
 have hb1:(0:Int)<=(i:Int)+(m:Int):=by omega
 have hin:i<=n:=by omega
 have htn:((i:Int)+(m:Int)).toNat=i+m:=by omega
 have hb2:¬ (c=i+m):=by omega
 have hb3:(i:Int)<=(n:Int)+(m:Int):=by omega
 have hb4:¬ (c=i):=by omega
 have hb5:¬ (c=n):=by omega
 have hb6:(n:Int)<=(n:Int)+(m:Int):=by omega
 have hcp:∀ (W:World),(∀ x,W.cell? x=w.cell? x)->(∀ x,W.frozen? x=w.frozen? x)->∀ ty dc,(Builtin.copy_ #[(ρ.t 22),(ρ.t 22)] ty #[.slice (some ⟨b,off+n,none⟩) (n+m - n) dc,.slice (some ⟨vb,voff,none⟩) m vc]).run P W=.ok (goInt vs.length) (W.setCells b (off+n) vs):=λW hWc hWf ty dc =>
  run_copy_cells W _ _ ty (ρ.t 3) b (off+n) (n+m - n) dc ⟨vb,voff,none⟩ m vc vs L.t22 hsz (by rw[hvl];simp only[Nat.min_def];split <;> omega)
   (λj v hj=>by
    rw[Addr.add_lit,hWc]
    exact hvs j v hj)
   (λj hj=>by rw[hWc,W7];exact hsp _ (by omega)) (λj hj=>by rw[hWf,W7];exact hfz _ (by omega)) h1v
 have hcp0:∀ ty dc,(Builtin.copy_ #[(ρ.t 22),(ρ.t 22)] ty #[.slice (some ⟨b,off+n,none⟩) m dc,.slice (some ⟨vb,voff,none⟩) m vc]).run P W0=.ok (goInt vs.length) (W0.setCells b (off+n) vs):=λty dc=>by
  have:=hcp W0 hW hF ty dc
  rwa [show n+m - n=m by omega] at this
 go_enter L.f21,Body2.n21_ntmps ρ
 go_wp2_with (first
  | (simp(disch:=omega)only[hov])
  | (at_builtin;refine wpList_copy_runI _ rfl _ _ (ρ.t 22) (ρ.t 22) rfl _ _ rfl rfl (hcp0 _ _) ?_)
  | (refine Calls.mono hrot ?_;rintro e w' ⟨⟨x,rfl⟩,hb⟩)
  | (refine Calls.mono hrot2 ?_;rintro e w' ⟨⟨x,rfl⟩,hb⟩))
 go_ret
 exact⟨rfl,hb⟩
theorem Gw {P:Program} {ρ:Ren} (L:Lays2.n21 P ρ) (b off n c i vb voff m vc:Nat) (cs vs:List Value) (w W0:World) (hi:i < n) (hm:0 < m) (hroom:n+m<=c) (hc63:n+m<=9223372036854775807) (hvb:vb≠b)
  (hcl:cs.length=n) (hvl:vs.length=m) (hcs:∀ j v,cs[j]?=some v->w.cell? ⟨b,off+j,none⟩=some v) (hsp:∀ j,j < n+m->(w.cell? ⟨b,off+j,none⟩).isSome=true) (hfz:∀ j,j < n+m->w.frozen? ⟨b,off+j,none⟩=false)
  (hvs:∀ j v,vs[j]?=some v->w.cell? ⟨vb,voff+j,none⟩=some v) (h1c:∀ v∈cs,v.oneCell'=true) (h1v:∀ v∈vs,v.oneCell'=true)
  (hov:∀ lb cb,lb≠0->(callFunc (ρ.f 27) #[.slice (some ⟨vb,voff,none⟩) m vc,.slice (some ⟨b,off+(i+m),none⟩) lb cb]).run P w=.ok (.value (.bool false)) W0)
  (hW:∀ x,W0.cell? x=w.cell? x) (hF:∀ x,W0.frozen? x=w.frozen? x) :
  Calls P (ρ.f 21) #[.slice (some ⟨b,off,none⟩) n c,.int .i64 i,.slice (some ⟨vb,voff,none⟩) m vc] w λe w' =>
   e=.returned (.slice (some ⟨b,off,none⟩) (n+m) c)/\w'=(W0.drew.setCells b (off+(i+m)) (cs.drop i)).setCells b (off+i) vs:=by
 have t0:=L.t0;have a0:=L.a0;have z0:=L.z0;have v0:=L.v0;have t3:=L.t3;have a3:=L.a3;have z3:=L.z3;have v3:=L.v3;have t4:=L.t4;have a4:=L.a4;have z4:=L.z4;have v4:=L.v4;have t22:=L.t22;have a22:=L.a22;have z22:=L.z22;have v22:=L.v22
 have u0:=run_underlying L.t0;have u3:=run_underlying L.t3;have u4:=run_underlying L.t4;have u22:=run_underlying L.t22
 have hz1:¬ ((m:Int)=0):=by omega
 have hz2:¬ ((i:Int)=(n:Int)):=by omega
 have hsz:(P.info? (ρ.t 3)).map (·.size)=some 1:=by
  obtain⟨i0,hi0,h0,h1,h2⟩:=info_parts L.i3
  rw[hi0];simp[h1]
 have hdl:(cs.drop i).length=n - i:=by rw[List.length_drop,hcl]
 have mixed:=L.mixed
 have hw1:IntKind.i64.wrap ((i:Int)+(m:Int))=(i:Int)+(m:Int):=by rw[IntKind.wrap_i64];omega
 have hb1:(0:Int)<=(i:Int)+(m:Int):=by omega
 have hin:i<=n:=by omega
 have htn:((i:Int)+(m:Int)).toNat=i+m:=by omega
 have hb2:¬ (c=i+m):=by omega
 have hb3:(i:Int)<=(n:Int)+(m:Int):=by omega
 have hb4:¬ (c=i):=by omega
 have hcp1:∀ ty dc sc,(Builtin.copy_ #[(ρ.t 22),(ρ.t 22)] ty #[.slice (some ⟨b,off+(i+m),none⟩) (n+m - (i+m)) dc,.slice (some ⟨b,off+i,none⟩) (n+m - i) sc]).run P W0.drew=.ok (goInt (cs.drop i).length) (W0.drew.setCells b (off+(i+m)) (cs.drop i)):=λty dc sc =>
  run_copy_cells W0.drew _ _ ty (ρ.t 3) b (off+(i+m)) (n+m - (i+m)) dc ⟨b,off+i,none⟩ (n+m - i) sc (cs.drop i) L.t22 hsz (by rw[hdl];simp only[Nat.min_def];split <;> omega)
   (λj v hj=>by rw[Addr.add_lit,W7];exact(hW _).trans (hcs (i+j) v (by rwa [XJ] at hj)))
   (λj hj=>by rw[W7,show W0.drew.cell?=W0.cell? from rfl,hW];exact hsp _ (by omega)) (λj hj=>by rw[W7,show W0.drew.frozen?=W0.frozen? from rfl,hF];exact hfz _ (by omega)) (λv hv=>h1c v (List.mem_of_mem_drop hv))
 obtain⟨W1,hW1⟩:∃ W1,W1=W0.drew.setCells b (off+(i+m)) (cs.drop i):=⟨_,rfl⟩
 have hsp1:∀ k,k < n+m->(W1.cell? ⟨b,off+k,none⟩).isSome=true:=λk hk=>by
  rw[hW1]
  exact isSome_setCells b _ _ _ (λj hj=>by rw[W7,show W0.drew.cell?=W0.cell? from rfl,hW];exact hsp _ (by omega)) _ (by rw[show W0.drew.cell?=W0.cell? from rfl,hW];exact hsp k hk)
 have hcp2:∀ (W:World),(∀ x,W.cell? x=W1.cell? x)->(∀ x,W.frozen? x=W1.frozen? x)->∀ ty dc,(Builtin.copy_ #[(ρ.t 22),(ρ.t 22)] ty #[.slice (some ⟨b,off+i,none⟩) (n+m - i) dc,.slice (some ⟨vb,voff,none⟩) m vc]).run P W=.ok (goInt vs.length) (W.setCells b (off+i) vs):=λW hWc hWf ty dc =>
  run_copy_cells W _ _ ty (ρ.t 3) b (off+i) (n+m - i) dc ⟨vb,voff,none⟩ m vc vs L.t22 hsz (by rw[hvl];simp only[Nat.min_def];split <;> omega)
   (λj v hj=>by
    rw[Addr.add_lit,hWc,hW1,World.cell?_setCells_out b _ _ _ _ (λh _=>absurd h hvb)]
    exact(hW _).trans (hvs j v hj))
   (λj hj=>by rw[hWc,W7];exact hsp1 _ (by omega)) (λj hj=>by rw[hWf,hW1,World.frozen?_setCells,W7,show W0.drew.frozen?=W0.frozen? from rfl,hF];exact hfz _ (by omega)) h1v
 rw[<-hW1] at hcp1
 go_enter L.f21,Body2.n21_ntmps ρ
 go_wp2_with (simp(disch:=omega)only[hov])
 go_region_law_o (refine step_copy_runI rfl _ _ (ρ.t 22) (ρ.t 22) rfl _ _ (by simp[Act.eval,Act.put]) (by simp[Act.eval,Act.put]) (hcp1 _ _ _) ?_)
 go_wp2_with (at_builtin;refine wpList_copy_runI _ rfl _ _ (ρ.t 22) (ρ.t 22) rfl _ _ rfl rfl (hcp2 _ (λ_=>rfl) (λ_=>rfl) _ _) ?_)
 go_ret
 first | exact⟨rfl,rfl⟩ | exact⟨rfl,by rw[hW1]⟩
theorem Gt {P:Program} {k:Ren} (L:Lays2.n21 P k) (b off n c i l a m u:Nat) (cs vs:List Value) (w:World) (hi:i < n) (hm:0 < m) (g:n+m<=c) (p:n+m<=9223372036854775807) (r:l≠b)
  (F:cs.length=n) (y:vs.length=m) (G:∀ j v,cs[j]?=some v->w.cell? ⟨b,off+j,none⟩=some v) (z:∀ j,j < n+m->(w.cell? ⟨b,off+j,none⟩).isSome=true) (s:∀ j,j < n+m->w.frozen? ⟨b,off+j,none⟩=false)
  (A:∀ j v,vs[j]?=some v->w.cell? ⟨l,a+j,none⟩=some v) (H:∀ v∈cs,v.oneCell'=true) (B:∀ v∈vs,v.oneCell'=true)
  (U V:TypeId) (I J:Nat) (K:w.shape? l=some (U,I)) (M:w.shape? b=some (V,J)) (N:I≠0) (O:J≠0) (R:w.frozen? ⟨l,a,none⟩=false) (Q:World->Prop)
  (Y:∀ d,(d=w∨d=w.drew)->Q ((d.drew.setCells b (off+(i+m)) (cs.drop i)).setCells b (off+i) vs))
  (q:∀ d,(d=w∨d=w.drew∨d=w.drew.drew)->Calls P (k.f 28) #[.slice (some ⟨b,off+i,none⟩) (n+m - i) (c - i),.int .i64 m] (d.setCells b (off+n) vs) λe w'=>(∃ x,e=.returned x)/\Q w') :
  Calls P (k.f 21) #[.slice (some ⟨b,off,none⟩) n c,.int .i64 i,.slice (some ⟨l,a,none⟩) m u] w λe w' =>
   e=.returned (.slice (some ⟨b,off,none⟩) (n+m) c)/\Q w':=by
 obtain⟨o,d,C,h⟩:=AI w (k.t 22) (k.t 4) (k.t 3) L.t22 1 L.z3 (by decide) ⟨l,a,none⟩ ⟨b,off+(i+m),none⟩ m u (by omega) r U V I J K M N O R (s _ (by omega))
 have D:∀ E S,E≠0->(callFunc (k.f 27) #[.slice (some ⟨l,a,none⟩) m u,.slice (some ⟨b,off+(i+m),none⟩) E S]).run P w=.ok (.value (.bool o)) d:=λE S T=>by
  rw[run_callFunc_extern L.f27 (by kernel_rfl) (by kernel_rfl) (by kernel_rfl) (e:=Extern.SlicesOverlaps.overlaps #[(k.t 22),(k.t 22)] #[(k.t 4)]) (by kernel_rfl),h E S T]
  rfl
 have W:∀ x,d.cell? x=w.cell? x:=λx=>by rcases C with rfl | rfl <;> rfl
 have X:∀ x,d.frozen? x=w.frozen? x:=λx=>by rcases C with rfl | rfl <;> rfl
 cases o with
 | false=>exact(Gw L b off n c i l a m u cs vs w d hi hm g p r F y G z s A H B D W X).mono λe w' ⟨h1,Z⟩=>⟨h1,by rw[Z];exact Y d C⟩
 | true=>exact I1 L b off n c i l a m u vs w d hi hm g p r y z s A B D W X Q (q d (C.imp id .inl)) (q d.drew (C.elim (λh=>.inr (.inl (by rw[h]))) (λh=>.inr (.inr (by rw[h])))))
theorem LV {P:Program} {ρ:Ren} (L:Lays2.n21 P ρ) (b off n c vb voff m vc:Nat) (vs:List Value) (w:World) (hm:0 < m) (hroom:n+m<=c) (hc63:n+m<=9223372036854775807)
  (hvl:vs.length=m) (hsp:∀ j,j < m->(w.cell? ⟨b,off+n+j,none⟩).isSome=true) (hfz:∀ j,j < m->w.frozen? ⟨b,off+n+j,none⟩=false)
  (hvs:∀ j v,vs[j]?=some v->w.cell? ⟨vb,voff+j,none⟩=some v) (h1v:∀ v∈vs,v.oneCell'=true) :
  Calls P (ρ.f 21) #[.slice (some ⟨b,off,none⟩) n c,.int .i64 n,.slice (some ⟨vb,voff,none⟩) m vc] w λe w' =>
   e=.returned (.slice (some ⟨b,off,none⟩) (n+m) c)/\w'=w.setCells b (off+n) vs:=by
 have t0:=L.t0;have a0:=L.a0;have z0:=L.z0;have v0:=L.v0;have t3:=L.t3;have a3:=L.a3;have z3:=L.z3;have v3:=L.v3;have t4:=L.t4;have a4:=L.a4;have z4:=L.z4;have v4:=L.v4;have t22:=L.t22;have a22:=L.a22;have z22:=L.z22;have v22:=L.v22
 have u0:=run_underlying L.t0;have u3:=run_underlying L.t3;have u4:=run_underlying L.t4;have u22:=run_underlying L.t22
 have mixed:=L.mixed
 have hz1:¬ ((m:Int)=0):=by omega
 have hsrc:Src P 1 (ρ.t 22) (.slice (some ⟨vb,voff,none⟩) m vc) m vs w:=Src.ofSlice w L.t22 ⟨vb,voff,none⟩ m vc vs (by omega) (λj u hj=>by rw[Addr.add_lit];exact hvs j u hj) h1v
 go_enter L.f21,Body2.n21_ntmps ρ
 go_wp2_with (at_builtin;refine wpList_append_room1 _ rfl _ _ (ρ.t 22) (ρ.t 22) rfl (ρ.t 3) _ _ L.t22 L.i3 b off n c rfl _ rfl m vs hsrc hroom (by rw[hvl];exact hsp) (by rw[hvl];exact hfz) ?_)
 go_ret
 exact⟨rfl,rfl⟩
open Go Go.Lib Go.Proofs Go.Shelf Go.RowKit Go.Sort
def dW:Ren where
 f:=fun
  | 21=>142
  | 27=>201
  | 28=>202
  | 35=>253
  | 39=>285
  | n=>n
 t:=fun
  | 22=>27
  | 3=>3
  | 4=>4
  | 0=>0
  | n=>n
 g:=λn=>n
theorem HB:Go.Proofs.Lays2.n21 Tryz.prog dW where
 mixed:=by kernel_rfl
 f21:=by kernel_rfl
 f27:=by kernel_rfl
 f28:=by kernel_rfl
 f35:=by kernel_rfl
 f39:=by kernel_rfl
 t0:=Tryz.underlying0
 a0:=Tryz.isAgg0
 z0:=Tryz.sizeOf0
 v0:=Tryz.zeroValue0
 t3:=Tryz.underlying3
 a3:=Tryz.isAgg3
 z3:=Tryz.sizeOf3
 v3:=Tryz.zeroValue3
 t4:=Tryz.underlying4
 a4:=Tryz.isAgg4
 z4:=Tryz.sizeOf4
 v4:=Tryz.zeroValue4
 t22:=Tryz.underlying27
 a22:=Tryz.isAgg27
 z22:=Tryz.sizeOf27
 v22:=Tryz.zeroValue27
 i3:=by kernel_rfl
def RI:Ren where
 f:=fun
  | 23=>144
  | n=>n
 t:=fun
  | 22=>27
  | 3=>3
  | 4=>4
  | 0=>0
  | n=>n
 g:=λn=>n
theorem VG:Go.Proofs.Lays2.n23 Tryz.prog RI where
 mixed:=by kernel_rfl
 f23:=by kernel_rfl
 t0:=Tryz.underlying0
 a0:=Tryz.isAgg0
 z0:=Tryz.sizeOf0
 v0:=Tryz.zeroValue0
 t3:=Tryz.underlying3
 a3:=Tryz.isAgg3
 z3:=Tryz.sizeOf3
 v3:=Tryz.zeroValue3
 t4:=Tryz.underlying4
 a4:=Tryz.isAgg4
 z4:=Tryz.sizeOf4
 v4:=Tryz.zeroValue4
 t22:=Tryz.underlying27
 a22:=Tryz.isAgg27
 z22:=Tryz.sizeOf27
 v22:=Tryz.zeroValue27
 i3:=by kernel_rfl
section
variable {Z:Nat->Prop} {μ:Mu}
theorem Dn {hp:Array Obj} {id off len esz:Nat} {x:Value} (h:aw Z μ hp (.sl id off len esz) x) :
  (len=0/\∃ a,x=.slice a 0 0)∨∃ b o0 cap,∃ c:Array Value,∃ e f,x=.slice (some ⟨b,o0+off * esz,none⟩) len cap/\μ id=some (b,o0,esz)/\len<=cap/\hp[b]?=some (.cells c e f)/\o0+(off+cap) * esz<=c.size:=by
 cases h with
 | oB _ _ _ a=>exact .inl ⟨rfl,a,rfl⟩
 | sl _ _ _ _ b o0 cap c e f h1 d g i=>exact .inr ⟨b,o0,cap,c,e,f,rfl,h1,d,g,i⟩
theorem xK {hp:Array Obj} {id b o0:Nat} {l:List Int} {c:Array Value} {e:TypeId} {f:Nat × Nat} (hm:μ id=some (b,o0,1)) (d:hp[b]?=some (.cells c e f)) (g:f.1=f.2∨c.size<=f.1) (k:o0+l.length<=c.size)
  (h:∀ j,j < l.length->cellAt hp b (o0+j)=some (.int .i64 (l.getD j 0))):dS Z μ hp id (.arr 1 (aM l)):=by
 intro m n s1 h1
 rw[hm] at h1
 simp only[Wu,Wx] at h1
 obtain⟨rfl,rfl,rfl⟩:=h1
 have a:(aM l).length=l.length:=by simp
 refine⟨rfl,⟨c,e,f,d,g,by rw[a];omega⟩,λi hi=>?_,λi j hi o=>?_⟩
 .rw[a] at hi;rw[vy hi];rfl
 .rw[a] at hi
  rw[vy hi]
  obtain rfl:j=0:=by omega
  exact⟨_,by simpa using h i hi,.val _ rfl⟩
theorem D4 {w:World} {H:View} {n b o0:Nat} {l:List Int} (hr:dT Z μ w.heap H) (g:H n=.arr 1 (aM l)) (hm:μ n=some (b,o0,1)) :
  ∃ c e f,w.heap[b]?=some (.cells c e f)/\(f.1=f.2∨c.size<=f.1)/\o0+l.length<=c.size/\∀ j,j < l.length->w.cell? ⟨b,o0+j,none⟩=some (.int .i64 (l.getD j 0)):=by
 have h:=hr.obj n
 rw[g] at h
 obtain⟨_,⟨c,e,f,i,k,m⟩,_,o⟩:=h b o0 1 hm
 refine⟨c,e,f,i,k,by simpa using m,λj a=>?_⟩
 obtain⟨x,p,d⟩:=o j 0 (by simpa using a) (by omega)
 rw[vy a] at d
 cases d
 rw[iz]
 simpa using p
theorem Q0 {w:World} {b k:Nat} {c:Array Value} {e:TypeId} {f:Nat × Nat} (a:w.heap[b]?=some (.cells c e f)) (d:f.1=f.2∨c.size<=f.1) (hk:k < c.size):w.frozen? ⟨b,k,none⟩=false:=by
 simp only[World.frozen?,a]
 rcases d with e | e
 .simp only[e,Yj,XC];omega
 .simp only[Yj,XC];omega
structure ez (w w':World) (b:Nat):Prop where
 same:ep w w'
 old:∀ j,j≠b->w'.heap[j]?=w.heap[j]?
 cell:∀ c e f,w.heap[b]?=some (.cells c e f)->∃ c',w'.heap[b]?=some (.cells c' e f)/\c'.size=c.size
theorem ez.refl (w:World) (b:Nat):ez w w b:=⟨.refl w,λ_ _=>rfl,λc e f h=>⟨c,h,rfl⟩⟩
theorem ez.trans {w a d:World} {b:Nat} (h:ez w a b) (k:ez a d b):ez w d b:=⟨h.same.trans k.same,λj g=>(k.old j g).trans (h.old j g),λc e f i=>by
 obtain⟨c1,h1,s1⟩:=h.cell c e f i
 obtain⟨c2,l,s2⟩:=k.cell c1 e f h1
 exact⟨c2,l,s2.trans s1⟩⟩
theorem ez.drew (w:World) (b:Nat):ez w w.drew b:=⟨⟨rfl,rfl,rfl,Wz _⟩,λ_ _=>rfl,λc e f h=>⟨c,h,rfl⟩⟩
theorem ez.map (w:World) (b:Nat) (g:Array Value->Array Value) (a:∀ c,(g c).size=c.size):ez w (mapBlock w b g) b:=by
 refine⟨⟨rfl,rfl,rfl,?_⟩,λj d=>?_,λc e f h=>⟨g c,?_,a c⟩⟩
 .simp[mapBlock]
 .simp only[mapBlock,X7]
  rw[Ws (λe=>d e.symm)]
 .simp only[mapBlock,X7,if_true,h]
  rfl
theorem ez.setCells (b:Nat):∀ (vs:List Value) (o:Nat) (w:World),ez w (w.setCells b o vs) b
 | [],_,w=>.refl w b
 | v :: r,o,w=>by
  rw[World.setCells]
  refine ez.trans ?_ (ez.setCells b r (o+1) _)
  rw[setCell_eq]
  exact ez.map _ _ _ (λc=>by simp)
theorem ez.ahead (w:World) (b q:Nat):ez w (Sort.ahead w q) b:=⟨⟨rfl,rfl,rfl,Wz _⟩,λ_ _=>rfl,λc e f h=>⟨c,h,rfl⟩⟩
theorem ez.kU {w w':World} {b:Nat} (h:ez w w' b):fu w.heap w'.heap:=λj c e f a=>by
 by_cases d:j=b
 .subst d
  obtain⟨g,h1,i⟩:=h.cell c e f a
  exact⟨g,f,h1,i⟩
 .exact⟨c,f,by rw[h.old j d];exact a,rfl⟩
theorem Pn {h:Heap} {F:View} {eff:aS} (b:∀ id,id∈eff.wr->h.view id≠.dead):cat (eff.apply h) F=eff.view (cat h F) h.length:=by
 have c:=j4 b
 funext k
 cases eff with
 | none=>rfl
 | new o =>
  have a:(aS.apply h (.new o)).length=h.length+1:=by simp[aS.apply]
  simp only[cat,c,a,aS.view,View.set]
  (repeat' split) <;> first | rfl | omega
 | eP id o =>
  have:=eu (b id (by simp[aS.wr]))
  have a:(aS.apply h (.eP id o)).length=h.length:=by simp[aS.apply]
  simp only[cat,c,a,aS.view,View.set]
  (repeat' split) <;> first | rfl | omega
 | dX id o =>
  have:=eu (b id (by simp[aS.wr]))
  have a:(aS.apply h (.dX id o)).length=h.length+1:=by simp[aS.apply]
  simp only[cat,c,a,aS.view,View.set]
  (repeat' split) <;> first | rfl | omega
theorem zt {μ':Mu} {w w':World} {h:Heap} {F:View} {eff:aS} (hr:dT Z μ w.heap (cat h F)) (he:lL Z μ μ' w.heap w'.heap h.length eff) (c:ep w w') (d:eff.fresh (μ h.length=none)) (b:∀ id,id∈eff.wr->h.view id≠.dead) :
  dT Z μ' w'.heap (cat (eff.apply h) F)/\Ext Z μ w h.length Z μ' w':=by
 refine⟨?_,(he.ext c d hr.cw hr.gR).1⟩
 rw[Pn b]
 have f:∀ id,h.view id≠.dead->cat h F id≠.dead:=λid a=>by
  simp only[cat];rw[Wv (eu a)];exact a
 exact hr.eff d c.size he (λid o e=>f id (b id (by rw[e];simp[aS.wr]))) (λid o e=>f id (b id (by rw[e];simp[aS.wr])))
theorem Ul {w w':World} {h:Heap} {F:View} {n b o0:Nat} {l l':List Int} (hr:dT Z μ w.heap (cat h F)) (o:h.view n=.arr 1 (aM l)) (a:μ h.length=none) (hm:μ n=some (b,o0,1)) (hp:ez w w' b)
  {c:Array Value} {e:TypeId} {f:Nat × Nat} (p:w.heap[b]?=some (.cells c e f)) (q:f.1=f.2∨c.size<=f.1) (r:o0+l'.length<=c.size) (s:∀ j,j < l'.length->w'.cell? ⟨b,o0+j,none⟩=some (.int .i64 (l'.getD j 0))) :
  dT Z (μ.set h.length (b,o0,1)) w'.heap (cat (h.set n .dead ++ [.arr 1 (aM l')]) F)/\Ext Z μ w h.length Z (μ.set h.length (b,o0,1)) w':=by
 obtain⟨t,i,d⟩:=hp.cell c e f p
 refine zt (eff:=.dX n (.arr 1 (aM l'))) hr ?_ hp.same a (λid g=>by
  simp[aS.wr] at g;subst g;rw[o];simp)
 refine⟨b,o0,1,rfl,?_,.inr ⟨⟨o0,1,hm⟩,λj m k=>hp.old j k,hp.kU⟩⟩
 exact xK (b:=b) (o0:=o0) (by simp[Mu.set]) i (by rw[d];exact q) (by rw[d];exact r) (λj m=>by rw[<-iz];exact s j m)
theorem Uq {w w':World} {h:Heap} {F:View} {n b o0:Nat} {l l':List Int} (hr:dT Z μ w.heap (cat h F)) (m:h.view n=.arr 1 (aM l)) (hm:μ n=some (b,o0,1)) (hp:ez w w' b)
  {c:Array Value} {e:TypeId} {f:Nat × Nat} (o:w.heap[b]?=some (.cells c e f)) (p:f.1=f.2∨c.size<=f.1) (q:o0+l'.length<=c.size) (r:∀ j,j < l'.length->w'.cell? ⟨b,o0+j,none⟩=some (.int .i64 (l'.getD j 0))) :
  dT Z μ w'.heap (cat (h.set n (.arr 1 (aM l'))) F)/\Ext Z μ w h.length Z μ w':=by
 obtain⟨s,g,a⟩:=hp.cell c e f o
 refine zt (eff:=.eP n (.arr 1 (aM l'))) hr ?_ hp.same trivial (λid d=>by
  simp[aS.wr] at d;subst d;rw[m];simp)
 refine⟨b,o0,1,hm,rfl,λj k i=>hp.old j i,hp.kU,?_⟩
 exact xK hm g (by rw[a];exact p) (by rw[a];exact q) (λj k=>by rw[<-iz];exact r j k)
theorem DH {w w':World} {h:Heap} {F:View} {l':List Int} (hr:dT Z μ w.heap (cat h F)) (a:μ h.length=none) (g:ep w w') (hold:∀ j,j < w.heap.size->w'.heap[j]?=w.heap[j]?)
  {c:Array Value} {e:TypeId} {f:Nat × Nat} (l:w'.heap[w.heap.size]?=some (.cells c e f)) (o:f.1=f.2∨c.size<=f.1) (r:l'.length<=c.size) (p:∀ j,j < l'.length->w'.cell? ⟨w.heap.size,j,none⟩=some (.int .i64 (l'.getD j 0)))
  {eff:aS} (he:eff=.new (.arr 1 (aM l'))∨∃ n,eff=.dX n (.arr 1 (aM l'))/\h.view n≠.dead) :
  dT Z (μ.set h.length (w.heap.size,0,1)) w'.heap (cat (eff.apply h) F)/\Ext Z μ w h.length Z (μ.set h.length (w.heap.size,0,1)) w':=by
 have i:w.heap.size < w'.heap.size:=eM l
 have m:dS Z (μ.set h.length (w.heap.size,0,1)) w'.heap h.length (.arr 1 (aM l')):=xK (b:=w.heap.size) (o0:=0) (by simp[Mu.set]) l o (by omega) (λj k=>by rw[<-iz,Xk];exact p j k)
 rcases he with rfl | ⟨n,rfl,q⟩
 .exact zt hr ⟨_,0,1,Wz _,i,rfl,λj k _=>hold j k,m⟩ g a (λid d=>by simp[aS.wr] at d)
 .exact zt hr ⟨_,0,1,rfl,m,.inl ⟨Wz _,i,λj k _=>hold j k⟩⟩ g a (λid d=>by
   simp[aS.wr] at d;subst d;exact q)
end
theorem uM {l:List Int} {i:Nat} {t:Int} (hi:i<=l.length) (j:Nat):(ey l i 0 [t]).getD j 0=if j < i then l.getD j 0 else if j=i then t else l.getD (j - 1) 0:=by
 unfold ey
 simp only[Wo,List.getElem?_append,XD,Nat.min_eq_left hi,XI,List.length_singleton,XJ]
 by_cases h1:j < i
 .simp[h1]
 .rw[Ws h1,Ws h1]
  by_cases a:j=i
  .subst a;simp
  .rw[Ws (by omega),Ws a]
   congr 2;omega
theorem lk {l:List Int} {i:Nat} {t:Int} (hi:i<=l.length):(ey l i 0 [t]).length=l.length+1:=by
 unfold ey;simp;omega
theorem TK {l cur:List Int} {i:Nat} {t:Int} (hi:i<=l.length) (h:DS (l ++ [t]) cur i (l.length+1 - i) (l.length+1 - i - 1)):cur=ey l i 0 [t]:=by
 obtain⟨h1,c⟩:=h
 simp only[WO,List.length_singleton] at h1 c
 refine XL (by rw[lk hi,h1]) λk hk a=>?_
 have b:k < l.length+1:=by omega
 have e:=c k b
 have f:=uM (t:=t) hi k
 have g:cur.getD k 0=cur[k]:=by simp[Wo,Wp hk]
 have a2:(ey l i 0 [t]).getD k 0=(ey l i 0 [t])[k]:=by simp[Wo,Wp a]
 rw[<-g,<-a2,e,f]
 have d:∀ m,m < l.length->(l ++ [t]).getD m 0=l.getD m 0:=λm hm=>by simp[Wo,WS hm]
 have j:(l ++ [t]).getD l.length 0=t:=by simp[Wo]
 by_cases c1:k < i
 .rw[Ws (by omega),Wv c1]
  exact d k (by omega)
 .rw[Wv (by omega),Ws c1]
  by_cases c2:k=i
  .rw[Wv c2,Wv (by omega),show k+(l.length+1 - i - 1)=l.length by omega,j]
  .rw[Ws c2,Ws (by omega),show k+(l.length+1 - i - 1) - (l.length+1 - i)=k - 1 by omega]
   exact d _ (by omega)
open Go Go.Lib Go.Proofs Go.Shelf Go.RowKit Go.Sort
theorem kq {w:World} {b k:Nat} {vs:List Value} {o:Nat} (a:∀ j,j < vs.length->(w.cell? ⟨b,o+j,none⟩).isSome=true) :
  (w.setCells b o vs).cell? ⟨b,k,none⟩=if o<=k/\k < o+vs.length then vs[k - o]? else w.cell? ⟨b,k,none⟩:=by
 split
 .rename_i h
  have:=World.cell?_setCells_in b vs o w a (k - o) (by omega)
  rw[show o+(k - o)=k by omega] at this
  rw[this,Wp (by omega)]
 .rename_i h
  exact World.cell?_setCells_out b vs o w _ (λ_ _=>by show k < o∨o+vs.length<=k;omega)
theorem x5 {l:List Int} {j:Nat} (h:j < l.length):(l.map (Value.int .i64))[j]?=some (.int .i64 (l.getD j 0)):=by
 simp[Wo,h]
theorem l0 {w:World} {row:Array Value} {e:TypeId} : (w.alloc (.cells row e)).heap[w.heap.size]?=some (.cells row e (0,0)):=World.alloc_heap_new w _
theorem yZ {w:World} {o:Obj} {j:Nat} (a:j < w.heap.size):(w.alloc o).heap[j]?=w.heap[j]?:=by
 rw[heap_alloc,X3,Ws (by omega)]
theorem BF:zq:=by
 intro H u v l i t ho hv ch hi hl
 refine⟨by kernel_rfl,?_⟩
 rintro h rfl
 have br:v < h.length:=eu (by rw[hv];simp)
 have args:∀ {Z:Nat->Prop} {μ:Mu} {F:View} {w:World} {u:V} {xs:List Value},fO Z μ w.heap [u,gi i,.sl v 0 1 1] xs->dT Z μ w.heap (cat h F) ->
   ∃ x B E S,xs=[x,.int .i64 i,.slice (some ⟨B,E,none⟩) 1 S]/\aw Z μ w.heap u x/\μ v=some (B,E,1)/\(∃ c e f,w.heap[B]?=some (.cells c e f)/\(f.1=f.2∨c.size<=f.1)/\E+1<=c.size)/\w.cell? ⟨B,E,none⟩=some (.int .i64 t):=by
  intro Z μ F w u xs I hr
  obtain⟨hlen,hx⟩:=I
  obtain⟨x0,x1,x2,rfl⟩:∃ x0 x1 x2,xs=[x0,x1,x2]:=by
   match xs,hlen with
   | [a,b,c],_=>exact⟨a,b,c,rfl⟩
  have h0:aw Z μ w.heap u x0:=hx 0 (by simp)
  have h1:aw Z μ w.heap (gi i) x1:=hx 1 (by simp)
  have P:aw Z μ w.heap (.sl v 0 1 1) x2:=hx 2 (by simp)
  have e1:=er h1
  subst e1
  rcases Dn P with ⟨e,_⟩ | ⟨B,E,S,cv,ev,fv,rfl,J,c4,a1,cj⟩
  .omega
  have ck:cat h F v=.arr 1 (aM [t]):=by simp only[cat];rw[Wv br,hv];rfl
  obtain⟨c,e,f,hc,hf,hs,d⟩:=D4 hr ck J
  exact⟨x0,B,E,S,by simp,h0,J,⟨c,e,f,hc,hf,by simpa using hs⟩,by simpa using d 0 (by simp)⟩
 have T:∀ {w:World} {B E:Nat},w.cell? ⟨B,E,none⟩=some (.int .i64 t)->∀ j x,[Value.int .i64 t][j]?=some x->w.cell? ⟨B,E+j,none⟩=some x:=by
  intro w B E d j x p
  match j,p with
  | 0,p=>simp at p;subst p;simpa using d
 have U:∀ x∈[Value.int .i64 t],x.oneCell'=true:=by simp;rfl
 have hG:∀ (w:World) (n c:Nat),n<=grownCap w n c (dW.t 3):=λw n c=>grownCap_ge w _ _ _
 rcases ho with ⟨he,k,rfl⟩ | ⟨n,rfl,hn⟩
 .obtain rfl:l=[]:=List.map_eq_nil_iff.1 he
  obtain rfl:i=0:=by simpa using hi
  refine⟨.sl h.length 0 1 1,h ++ [.arr 1 (aM [t])],⟨by simp,λZ μ F w xs I hr z=>?_⟩,λk hk hd=>?_,?_,?_⟩
  rotate_left
  .rw[jW];simp only[View.set];rw[Ws (by omega)];exact hd
  .exact .inr ⟨h.length,rfl,by rw[jW];simp[View.set];rfl⟩
  .intro id C _ _
   have:=eu C
   rw[jW]
   exact⟨by simp only[View.set];rw[Ws (by omega)],by simp[owner];omega⟩
  obtain⟨x,B,E,S,rfl,h0,J,_,d⟩:=args I hr
  have W:=z h.length (Wz _) (by simp)
  cases h0 with
  | emp _ a _ _ =>
   have r:=Any2.slices_Insert_int_end_grow HB a 0 0 B E 1 S [] [.int .i64 t] w (by omega) (by omega) (by omega) (by omega) rfl rfl (λ_=>rfl) (by simp) (T d) U
   refine Calls.mono (show Calls Tryz.prog 142 _ w _ from r) ?_
   rintro e w' ⟨rfl,rfl⟩
   have hg:=hG w (0+1) 0
   generalize grownCap w (0+1) 0 (dW.t 3)=G at hg ⊢
   generalize s:(([] ++ [Value.int .i64 t]).toArray ++ Builtin.zeroCells (Value.int .i64 0).cells (G - (0+1)))=row
   have bs:row.size=G:=by rw[<-s];simp[Builtin.zeroCells,Value.cells];omega
   obtain⟨k1,k2⟩:=DH (l':=[t]) (w':=w.drew.alloc (.cells row _)) (eff:=.new (.arr 1 (aM [t]))) hr W (gX _ _) (λj p=>yZ (w:=w.drew) p) (l0 (w:=w.drew)) (.inl rfl) (by simp;omega) (λj p=>by
    obtain rfl:j=0:=by simpa using p
    have:=World.cell?_alloc_at (w:=w.drew) row (dW.t 3) w.heap.size 0 rfl
    refine this.trans ?_
    rw[<-s,Xr (by simp)];rfl) (.inl rfl)
   refine⟨_,Z,_,rfl,?_,k1,k2,λid C=>?_⟩
   .have:=aw.sl (Z:=Z) (μ:=μ.set h.length (w.heap.size,0,1)) (hp:=(w.drew.alloc (.cells row (dW.t 3))).heap) h.length 0 1 1 w.heap.size 0 G row _ (0,0) (by simp[Mu.set]) (by omega) (l0 (w:=w.drew)) (by omega)
    simpa using this
   .simp only[Mu.set]
    rw[Ws (by simp at C;omega)]
 .simp only[WG] at *
  have a6:n < h.length:=eu (by rw[hn];simp)
  have cu:v≠n:=λe=>ch (by rw[e];rfl)
  have e1:Heap.view (h.set n .dead ++ [.arr 1 (aM (l ++ [t]))]) h.length=.arr 1 (aM (l ++ [t])):=by
   have:=jW (h.set n .dead) (.arr 1 (aM (l ++ [t])))
   rw[this];simp[View.set]
  obtain⟨_,hR⟩:=Du (H:=Heap.view (h.set n .dead ++ [.arr 1 (aM (l ++ [t]))])) (id:=h.length) (l:=l ++ [t]) (off:=i) (len:=l.length+1 - i) (m:=1) e1 (by simp;omega) (by omega) (by unfold aC;simp;omega)
  obtain⟨r2,P,hA,hS,cur,bx,b0,a7⟩:=hR _ rfl
  obtain rfl:=TK hi b0
  have c5:h.length+1<=P.length:=by simpa using hA.1
  have D:∀ id,P.view id=if id=h.length then .arr 1 (aM (ey l i 0 [t])) else if id=n then .dead else h.view id:=λid=>by
   by_cases e:id=h.length
   .rw[Wv e,e,bx]
   .rw[Ws e,a7 id e,jW,fQ a6]
    simp only[View.set,X6]
    rw[Ws e]
  refine⟨.sl h.length 0 (l.length+1) 1,P,⟨by omega,λZ μ F w xs I hr z=>?_⟩,λk hk hd=>?_,?_,?_⟩
  rotate_left
  .rw[D,Ws (by omega),hd];simp
  .exact .inr ⟨h.length,by rw[WG,lk hi],by rw[D,Wv rfl]⟩
  .intro id C _ hu
   have h3:=eu C
   have h4:id≠n:=λe=>hu (by rw[e];rfl)
   rw[D,Ws (by omega),Ws h4]
   exact⟨rfl,by simp[owner];omega⟩
  obtain⟨x,B,E,S,rfl,h0,J,⟨cv,ev,fv,a1,cA,cj⟩,d⟩:=args I hr
  have W:=z h.length (Wz _) (by omega)
  have b1:cat h F n=.arr 1 (aM l):=by simp only[cat];rw[Wv a6,hn]
  have fin:∀ {w':World} {y:Value} {b o:Nat},dT Z (μ.set h.length (b,o,1)) w'.heap (cat (h.set n .dead ++ [.arr 1 (aM (ey l i 0 [t]))]) F)/\Ext Z μ w h.length Z (μ.set h.length (b,o,1)) w'->aw Z (μ.set h.length (b,o,1)) w'.heap (.sl h.length 0 (l.length+1) 1) y ->
    ∃ A μ',aw A μ' w'.heap (.sl h.length 0 (l.length+1) 1) y/\dT A μ' w'.heap (cat P F)/\Ext Z μ w h.length A μ' w'/\∀ id,id < h.length∨P.length<=id->μ' id=μ id:=by
   rintro w' y b o ⟨k1,k2⟩ k3
   refine⟨Z,_,k3,k1.congr λid C=>?_,k2,λid C=>?_⟩
   .have e2:Heap.view (h.set n .dead ++ [.arr 1 (aM (ey l i 0 [t]))]) id=P.view id:=by
     rw[D,jW,fQ a6]
     simp only[View.set,X6]
    simp only[cat,WO,X6,List.length_singleton]
    by_cases c1:id < h.length+1
    .rw[Wv c1,Wv (by omega),e2]
    .rw[Ws c1]
     by_cases c2:id < P.length
     .exact absurd (by simp only[Mu.set];rw[Ws (by omega)];exact z id (by omega) c2) C
     .rw[Ws c2]
   .simp only[Mu.set];rw[Ws (by omega)]
  have live:h.view n≠.dead:=by rw[hn];simp
  have a8:(l.map (Value.int .i64)).length=l.length:=by simp
  have b2:∀ x∈l.map (Value.int .i64),x.oneCell'=true:=λx hx=>by
   obtain⟨_,_,rfl⟩:=WQ.1 hx
   rfl
  have al:∀ (a:Option Addr) (c:Nat),i=l.length->l.length<=c->c < l.length+1->(a=none->l.length=0)->(∀ ad,a=some ad->∀ j v,(l.map (Value.int .i64))[j]?=some v->w.cell? (ad.add j)=some v) ->
    Calls Tryz.prog 142 #[.slice a l.length c,.int .i64 l.length,.slice (some ⟨B,E,none⟩) 1 S] w λe w'=>∃ x A μ',e=.returned x/\aw A μ' w'.heap (.sl h.length 0 (l.length+1) 1) x/\dT A μ' w'.heap (cat P F)/\Ext Z μ w h.length A μ' w'/\∀ id,id < h.length∨P.length<=id->μ' id=μ id:=by
   intro a c K cC c6 b3 X
   have r:=Any2.slices_Insert_int_end_grow HB a l.length c B E 1 S (l.map (Value.int .i64)) [.int .i64 t] w (by omega) cC (by omega) (by omega) a8 rfl b3 X (T d) U
   refine Calls.mono (show Calls Tryz.prog 142 _ w _ from r) ?_
   rintro e w' ⟨rfl,rfl⟩
   have hg:=hG w (l.length+1) c
   generalize grownCap w (l.length+1) c (dW.t 3)=G at hg ⊢
   generalize s:((l.map (Value.int .i64) ++ [Value.int .i64 t]).toArray ++ Builtin.zeroCells (Value.int .i64 0).cells (G - (l.length+1)))=row
   have bs:row.size=G:=by rw[<-s];simp[Builtin.zeroCells,Value.cells];omega
   have k:=DH (l':=ey l i 0 [t]) (w':=w.drew.alloc (.cells row (dW.t 3))) (eff:=.dX n (.arr 1 (aM (ey l i 0 [t])))) hr W (gX _ _) (λj p=>yZ (w:=w.drew) p) (l0 (w:=w.drew)) (.inl rfl) (by rw[lk hi];omega) (λj p=>by
    rw[lk hi] at p
    have:=World.cell?_alloc_at (w:=w.drew) row (dW.t 3) w.heap.size j rfl
    refine this.trans ?_
    rw[<-s,uM hi,K,Xr (by simp;omega),Xg]
    by_cases c1:j < l.length
    .rw[Wv c1,WS (by omega),x5 c1]
    .obtain rfl:j=l.length:=by omega
     rw[Ws c1,Wv rfl,Xi (by omega)]
     simp) (.inr ⟨n,rfl,live⟩)
   obtain⟨A,μ',f1,f2,f3,f4⟩:=fin k (y:=.slice (some ⟨w.heap.size,0,none⟩) (l.length+1) G) (by
    have:=aw.sl (Z:=Z) (μ:=μ.set h.length (w.heap.size,0,1)) (hp:=(w.drew.alloc (.cells row (dW.t 3))).heap) h.length 0 (l.length+1) 1 w.heap.size 0 G row _ (0,0) (by simp[Mu.set]) (by omega) (l0 (w:=w.drew)) (by omega)
    simpa using this)
   exact⟨_,A,μ',rfl,f1,f2,f3,f4⟩
  rcases Dn h0 with ⟨e0,a,rfl⟩ | ⟨b,o0,cap,c0,e0,f0,rfl,bd,ar,L,da⟩
  .obtain rfl:l=[]:=XY.1 e0
   obtain rfl:i=0:=by simpa using hi
   exact al a 0 rfl (by simp) (by simp) (λ_=>rfl) (by simp)
  obtain⟨c,e,f,hc,hf,hs,ae⟩:=D4 hr b1 bd
  rw[L] at hc
  simp only[Wu,Obj.cells.injEq] at hc
  obtain⟨rfl,rfl,rfl⟩:=hc
  rw[Nat.zero_mul,XW]
  have X:∀ j v,(l.map (Value.int .i64))[j]?=some v->w.cell? ⟨b,o0+j,none⟩=some v:=λj x p=>by
   have b4:j < l.length:=by
    have:=(Wy.1 p).1
    simpa using this
   rw[x5 b4] at p
   rw[ae j b4,p]
  by_cases M:l.length+1<=cap
  .have g:∀ j,j < l.length+1->(w.cell? ⟨b,o0+j,none⟩).isSome=true:=λj p=>by
    rw[iz,cellAt,L];simp;omega
   have b5:∀ j,j < l.length+1->w.frozen? ⟨b,o0+j,none⟩=false:=λj p=>Q0 L hf (by omega)
   have Y:∀ {w':World},ez w w' b->aw Z (μ.set h.length (b,o0,1)) w'.heap (.sl h.length 0 (l.length+1) 1) (.slice (some ⟨b,o0,none⟩) (l.length+1) cap):=λ{w'} hp=>by
    obtain⟨c',Q,b8⟩:=hp.cell _ _ _ L
    have:=aw.sl (Z:=Z) (μ:=μ.set h.length (b,o0,1)) (hp:=w'.heap) h.length 0 (l.length+1) 1 b o0 cap c' _ _ (by simp[Mu.set]) M Q (by omega)
    simpa using this
   have room:∀ {w':World} {l':List Int},ez w w' b->l'.length=l.length+1->(∀ j,j < l.length+1->w'.cell? ⟨b,o0+j,none⟩=some (.int .i64 (l'.getD j 0))) ->
     dT Z (μ.set h.length (b,o0,1)) w'.heap (cat (h.set n .dead ++ [.arr 1 (aM l')]) F)/\Ext Z μ w h.length Z (μ.set h.length (b,o0,1)) w':=λhp dc cI =>
    Ul hr hn W bd hp L hf (by omega) (λj p=>cI j (by omega))
   by_cases K:i=l.length
   .have r:=LV HB b o0 l.length cap B E 1 S [.int .i64 t] w (by omega) M (by omega) rfl (λj p=>by rw[W7];exact g _ (by omega)) (λj p=>by rw[W7];exact b5 _ (by omega)) (T d) U
    rw[K]
    refine Calls.mono (show Calls Tryz.prog 142 _ w _ from r) ?_
    rintro e w' ⟨rfl,rfl⟩
    have hp:=ez.setCells b [.int .i64 t] (o0+l.length) w
    obtain⟨A,μ',f1,f2,f3,f4⟩:=fin (room hp (lk hi) λj p=>by
     rw[kq (λj p=>by rw[W7];exact g _ (by simp at p;omega)),uM hi]
     by_cases c1:j < l.length
     .rw[Ws (by omega),Wv (by omega)]
      exact ae j c1
     .obtain rfl:j=l.length:=by omega
      rw[Wv (by simp),Ws (by omega),Wv K.symm]
      simp) (Y hp)
    exact⟨_,A,μ',rfl,f1,f2,f3,f4⟩
   .have cN:B≠b:=λe=>by
     subst e
     rcases hr.inj v n _ _ _ _ _ cu J bd with q | q
     .simp only[cat] at q;rw[Wv br,hv] at q;simp at q
     .rw[b1] at q;simp at q
    have cS:w.shape? B=some (ev,cv.size):=by simp only[World.shape?,a1]
    obtain⟨tb,cV⟩:∃ tb,w.shape? b=some (tb,c0.size):=⟨_,by unfold World.shape?;rw[L]⟩
    have r:=Gt HB b o0 l.length cap i B E 1 S (l.map (Value.int .i64)) [.int .i64 t] w (by omega) (by omega) M (by omega) cN a8 rfl X g b5 (T d) b2 U _ _ _ _ cS cV (by omega) (by omega) (Q0 a1 cA (by omega))
     (λw'=>∃ A μ',aw A μ' w'.heap (.sl h.length 0 (l.length+1) 1) (.slice (some ⟨b,o0,none⟩) (l.length+1) cap)/\dT A μ' w'.heap (cat P F)/\Ext Z μ w h.length A μ' w'/\∀ id,id < h.length∨P.length<=id->μ' id=μ id)
     (λR ab=>by
      have bl:ez w R b:=by rcases ab with rfl | rfl <;> first | exact .refl _ _ | exact .drew _ _
      have N:∀ x,R.cell? x=w.cell? x:=λx=>by rcases ab with rfl | rfl <;> rfl
      have hp:=(((bl.trans (.drew _ _)).trans (ez.setCells b ((l.map (Value.int .i64)).drop i) (o0+(i+1)) _)).trans (ez.setCells b [.int .i64 t] (o0+i) _))
      refine fin (room hp (lk hi) λj p=>?_) (Y hp)
      have c3:∀ k,k < l.length+1->((R.drew.setCells b (o0+(i+1)) ((l.map (Value.int .i64)).drop i)).cell? ⟨b,o0+k,none⟩).isSome=true:=λk hk=>isSome_setCells _ _ _ _ (λq O=>by
        show (R.cell? _).isSome=true
        rw[N,W7];simp at O;exact g _ (by omega)) _ (by show (R.cell? _).isSome=true;rw[N];exact g k hk)
      rw[kq (λq O=>by rw[W7];simp at O;exact c3 _ (by omega)),uM hi]
      by_cases c1:j=i
      .subst c1
       rw[Wv (by simp),Ws (by omega),Wv rfl]
       simp
      .rw[Ws (by simp;omega),kq (λq O=>by
        show (R.cell? _).isSome=true
        rw[N,W7];simp at O;exact g _ (by omega))]
       by_cases c2:j < i
       .rw[Ws (by omega),Wv c2]
        show R.cell? _=_
        rw[N];exact ae j (by omega)
       .rw[Wv (by simp;omega),Ws c2,Ws c1,XJ,show i+(o0+j - (o0+(i+1)))=j - 1 by omega,x5 (by omega)])
     (λR ab=>by
      have bl:ez w R b:=by rcases ab with rfl | rfl | rfl <;> first | exact .refl _ _ | exact .drew _ _ | exact(ez.drew _ _).trans (.drew _ _)
      have N:∀ x,R.cell? x=w.cell? x:=λx=>by rcases ab with rfl | rfl | rfl <;> rfl
      have hp:=bl.trans (ez.setCells b [.int .i64 t] (o0+l.length) R)
      obtain⟨k1,k2⟩:=room (l':=l ++ [t]) hp (by simp) λj p=>by
       rw[kq (λq O=>by rw[N,W7];simp at O;exact g _ (by omega))]
       by_cases c1:j < l.length
       .rw[Ws (by omega),N,ae j c1]
        simp[Wo,WS c1]
       .obtain rfl:j=l.length:=by omega
        rw[Wv (by simp)]
        simp[Wo]
      obtain⟨c',Q,b8⟩:=hp.cell _ _ _ L
      have ha:=hA.2 Z (μ.set h.length (b,o0,1)) F (R.setCells b (o0+l.length) [.int .i64 t]) [.slice (some ⟨b,o0+i,none⟩) (l.length+1 - i) (cap - i),.int .i64 (1:Nat)] ⟨rfl,λq O=>by
        match q,O with
        | 0,_ =>
         have:=aw.sl (Z:=Z) (μ:=μ.set h.length (b,o0,1)) (hp:=(R.setCells b (o0+l.length) [.int .i64 t]).heap) h.length i (l.length+1 - i) 1 b o0 (cap - i) c' _ _ (by simp[Mu.set]) (by omega) Q (by omega)
         simpa using this
        | 1,_=>exact .val _ rfl⟩ k1 (λid b9 ca=>by
       simp at b9
       simp only[Mu.set];rw[Ws (by omega)];exact z id (by omega) ca)
      refine Calls.mono ha ?_
      rintro e w' ⟨y,A,μ',rfl,_,g2,g3,g4⟩
      refine⟨⟨y,rfl⟩,A,μ',?_,g2,k2.trans g3 (by simp) hr.lt,λid C=>?_⟩
      .exact(Y hp).mono g3.mono
      .rw[g4 id (by simp;omega)]
       simp only[Mu.set];rw[Ws (by omega)])
    refine Calls.mono (show Calls Tryz.prog 142 _ w _ from r) ?_
    rintro e w' ⟨rfl,A,μ',f1,f2,f3,f4⟩
    exact⟨_,A,μ',rfl,f1,f2,f3,f4⟩
  .by_cases K:i=l.length
   .rw[K]
    refine al _ cap K ar (by omega) (λq=>by simp at q) (λad cb j x p=>?_)
    simp only[Wu] at cb
    subst cb
    rw[Addr.add_lit]
    exact X j x p
   .have r:=Any2.slices_Insert_int_grow HB b o0 l.length cap i B E 1 S (l.map (Value.int .i64)) [.int .i64 t] w (by omega) (by omega) ar (by omega) (by omega) a8 rfl X (T d) b2 U
    refine Calls.mono (show Calls Tryz.prog 142 _ w _ from r) ?_
    rintro e w' ⟨rfl,rfl⟩
    have hg:=hG w (l.length+1) cap
    generalize grownCap w (l.length+1) cap (dW.t 3)=G at hg ⊢
    generalize s:(((l.map (Value.int .i64)).take i).toArray ++ Builtin.zeroCells (Value.int .i64 0).cells (l.length+1 - i) ++ Builtin.zeroCells (Value.int .i64 0).cells (G - (l.length+1)))=row
    have bs:row.size=G:=by rw[<-s];simp[Builtin.zeroCells,Value.cells];omega
    have hp:ez (w.alloc (.cells row (dW.t 3))) ((((w.alloc (.cells row (dW.t 3))).drew.setCells w.heap.size i [.int .i64 t]).drew).setCells w.heap.size (i+1) ((l.map (Value.int .i64)).drop i)) w.heap.size :=
     (((ez.drew _ _).trans (ez.setCells _ _ _ _)).trans (.drew _ _)).trans (ez.setCells _ _ _ _)
    have cc:∀ k,(w.alloc (.cells row (dW.t 3))).cell? ⟨w.heap.size,k,none⟩=row[k]?:=λk=>World.cell?_alloc_at (w:=w) row (dW.t 3) w.heap.size k rfl
    have bn:∀ k,k < l.length+1->((w.alloc (.cells row (dW.t 3))).cell? ⟨w.heap.size,k,none⟩).isSome=true:=λk hk=>by rw[cc];simp;omega
    obtain⟨c',Q,b8⟩:=hp.cell _ _ _ (l0 (w:=w))
    have cf:∀ k,k < l.length+1->(((w.alloc (.cells row (dW.t 3))).drew.setCells w.heap.size i [.int .i64 t]).cell? ⟨w.heap.size,k,none⟩).isSome=true:=λk hk=>isSome_setCells _ _ _ ((w.alloc (.cells row (dW.t 3))).drew) (λq O=>bn _ (by simp at O;omega)) _ (bn k hk)
    have k:=DH (l':=ey l i 0 [t]) (eff:=.dX n (.arr 1 (aM (ey l i 0 [t])))) hr W ((ir _ _).trans hp.same) (λj p=>(hp.old j (by omega)).trans (yZ p)) Q (.inl rfl) (by rw[lk hi];omega) (λj p=>by
     rw[lk hi] at p
     rw[kq (λq O=>by simp at O;exact cf _ (by omega)),uM hi]
     by_cases c1:i+1<=j
     .rw[Wv (by simp;omega),Ws (by omega),Ws (by omega),XJ,show i+(j - (i+1))=j - 1 by omega,x5 (by omega)]
     .rw[Ws (by omega)]
      show ((w.alloc (.cells row (dW.t 3))).drew.setCells w.heap.size i [.int .i64 t]).cell? _=_
      rw[kq (λq O=>by simp at O;exact bn _ (by omega))]
      by_cases c2:j=i
      .subst c2
       rw[Wv (by simp),Ws (by omega),Wv rfl]
       simp
      .rw[Ws (by simp;omega),Wv (by omega)]
       refine(cc j).trans ?_
       rw[<-s,Array.append_assoc,Xr (by simp;omega),Xg,XI,Wv (by omega),x5 (by omega)]) (.inr ⟨n,rfl,live⟩)
    obtain⟨A,μ',f1,f2,f3,f4⟩:=fin k (y:=.slice (some ⟨w.heap.size,0,none⟩) (l.length+1) G) (by
     have:=aw.sl (Z:=Z) (μ:=μ.set h.length (w.heap.size,0,1)) (hp:=((((w.alloc (.cells row (dW.t 3))).drew.setCells w.heap.size i [.int .i64 t]).drew).setCells w.heap.size (i+1) ((l.map (Value.int .i64)).drop i)).heap) h.length 0 (l.length+1) 1 w.heap.size 0 G c' _ (0,0) (by simp[Mu.set]) (by omega) Q (by omega)
     simpa using this)
    exact⟨_,A,μ',rfl,f1,f2,f3,f4⟩
open Go Go.Lib Go.Proofs Go.Shelf Go.RowKit Go.Sort
set_option maxRecDepth 1000000 in
theorem Ji {P:Program} {ρ:Ren} (L:Lays2.n23 P ρ) (blk off cap i j:Nat) (d:Array Int) (w:World) (hH:Holds (Value.int .i64) w blk off d) (hcap:d.size<=cap) (hm:d.size<=9223372036854775807) (hij:i<=j) (hj:j<=d.size) :
  Calls P (ρ.f 23) #[.slice (some ⟨blk,off,none⟩) d.size cap,.int .i64 i,.int .i64 j] w λe w'=>e=.returned (.slice (some ⟨blk,off,none⟩) (d.size - (j - i)) cap)/\∃ q,w'=putRow (Value.int .i64) (Sort.ahead w q) blk off (d.toList.take i ++ d.toList.drop j ++ List.replicate (j - i) 0).toArray:=by
 have mixed:=L.mixed;have t0:=L.t0;have a0:=L.a0;have z0:=L.z0;have v0:=L.v0;have t3:=L.t3;have a3:=L.a3;have z3:=L.z3;have v3:=L.v3;have t4:=L.t4;have a4:=L.a4;have z4:=L.z4;have v4:=L.v4;have t22:=L.t22;have a22:=L.a22;have z22:=L.z22;have v22:=L.v22
 obtain⟨i0,hi0,hz0,hz1,hz2⟩:=info_parts L.i3
 by_cases heq:i=j
 .subst heq
  have h0:Calls P (ρ.f 23) #[.slice (some ⟨blk,off,none⟩) d.size cap,.int .i64 i,.int .i64 i] w λe w'=>e=.returned (.slice (some ⟨blk,off,none⟩) d.size cap)/\w'=w:=by
   clear hH
   go_enter L.f23,Body2.n23_ntmps ρ
   go_wp2
   all_goals (go_ret;exact⟨rfl,rfl⟩)
  refine h0.mono ?_
  rintro e w' ⟨rfl,rfl⟩
  have e:(d.toList.take i ++ d.toList.drop i ++ List.replicate (i - i) 0).toArray=d:=by simp
  refine⟨by rw[Nat.sub_self,Nat.sub_zero],0,?_⟩
  rw[e]
  exact(putRow_self (Value.int .i64) (Sort.ahead w' 0) blk off d hH).symm
 .have hlt:i < j:=by omega
  obtain⟨news,hnews⟩:∃ news,news=(d.toList.drop j).map (Value.int .i64):=⟨_,rfl⟩
  have hlen:news.length=d.size - j:=by rw[hnews];simp
  have hget:∀ t,t < d.size - j->news[t]?=some ((Value.int .i64) d[j+t]!):=by
   intro t ht
   rw[hnews,Ww,XJ,Yk,getElem!_pos d (j+t) (by omega),WM (by omega)]
   rfl
  obtain⟨A,hA,hsrc⟩:∃ A:Addr,(if cap=j then some (⟨blk,off,none⟩:Addr) else some ⟨blk,off+j,none⟩)=some A/\Hid (∀ t u,news[t]?=some u->w.drew.cell? (A.add t)=some u):=by
   by_cases h:cap=j
   .refine⟨⟨blk,off,none⟩,by simp[h],λt u hu=>?_⟩
    have h0:news.length=0:=by rw[hlen];omega
    rw[XY.1 h0] at hu
    simp at hu
   .refine⟨⟨blk,off+j,none⟩,by simp[h],λt u hu=>?_⟩
    have ht:t < d.size - j:=by
     have:=(Wy.1 hu).1
     rwa [hlen] at this
    rw[hget t ht] at hu
    rw[Addr.add_lit,show off+j+t=off+(j+t) by omega]
    exact(hH (j+t) (by omega)).1.trans hu
  have s1:Hid (news.length=(d.size - j) * 1):=by rw[YB];exact hlen
  have s2:Hid (∀ u∈news,u.oneCell'=true):=by
   intro u hu
   rw[hnews] at hu
   obtain⟨x,_,rfl⟩:=WQ.1 hu
   rfl
  have s3:Hid (∀ t,t < news.length->(w.drew.cell? ⟨blk,off+i * 1+t,none⟩).isSome=true/\w.drew.frozen? ⟨blk,off+i * 1+t,none⟩=false):=by
   intro t ht
   rw[hlen] at ht
   rw[YB,W7]
   exact⟨by show (w.cell? _).isSome=true;rw[(hH (i+t) (by omega)).1];rfl,(hH (i+t) (by omega)).2⟩
  obtain⟨W1,hW1⟩:∃ W1,W1=w.drew.setCells blk (off+i * 1) news:=⟨_,rfl⟩
  have hW1':W1=putRow (Value.int .i64) (Sort.ahead w 1) blk off (lay d i (d.toList.drop j)):=by
   rw[hW1,hnews,YB,<-putRow_setCells (Value.int .i64) (Sort.ahead w 1) blk off _ d i (by simp;omega),putRow_self (Value.int .i64) (Sort.ahead w 1) blk off d (holds_ahead (Value.int .i64) w 1 blk off d hH)]
   rfl
  have hH1:Holds (Value.int .i64) W1 blk off (lay d i (d.toList.drop j)):=by rw[hW1'];exact holds_putRow (Value.int .i64) _ blk off d _ (holds_ahead (Value.int .i64) w 1 blk off d hH) (lay_size _ _ _)
  have hcl:∀ ty,(Builtin.clear_ #[ρ.t 22] ty #[.slice (some ⟨blk,off+(i+(d.size - j)),none⟩) (d.size - (i+(d.size - j))) (cap - (i+(d.size - j)))]).run P W1=.ok (.tuple #[]) (W1.setCells blk (off+(i+(d.size - j))) (List.replicate (d.size - (i+(d.size - j))) ((Value.int .i64) 0))) :=
   λty=>Lib.run_clear_slice W1 _ _ ty _ t22 v3 rfl rfl blk (off+(i+(d.size - j))) _ _ (by omega) (λt ht=>by rw[show off+(i+(d.size - j))+t=off+(i+(d.size - j)+t) by omega,(hH1 _ (by rw[lay_size];omega)).1];rfl) (λt ht=>by rw[show off+(i+(d.size - j))+t=off+(i+(d.size - j)+t) by omega];exact(hH1 _ (by rw[lay_size];omega)).2)
  have X:Aside (W1=putRow (Value.int .i64) (Sort.ahead w 1) blk off (lay d i (d.toList.drop j))):=hW1'
  have hW:Hid (W1=w.drew.setCells blk (off+i * 1) news):=hW1
  have hic:i<=cap:=by omega
  have hjc:j<=cap:=by omega
  clear hW1 hW1' hH1 hH hget hnews hlen
  go_enter L.f23,Body2.n23_ntmps ρ
  go_wp2_with fail
  go_region_law_o (refine step_append_room rfl (.tmp 22) (.tmp 25) (ρ.t 22) rfl (ρ.t 3) i0 1 t22 hi0 hz1 blk off i cap (by simp[Act.eval,Act.put]) A (d.size - j) (cap - j) news (by simp[Act.eval,Act.put]) s1.out hsrc.out s2.out (by omega) s3.out ?_;rw[<-hW.out])
  go_wp2
  go_ret
  refine⟨by rw[show d.size - (j - i)=i+(d.size - j) by omega];rfl,1,?_⟩
  rw[<-delete_arr d i j 0 hij hj,<-putRow_setCells (Value.int .i64) _ blk off _ _ (i+(d.size - j)) (by rw[lay_size];simp;omega),<-X.out,List.map_replicate,show d.size - (i+(d.size - j))=j - i by omega]
open Go Go.Lib Go.Proofs Go.Shelf Go.RowKit Go.Sort
theorem AM {l:List Int} {p:Nat} (hp:p < l.length):(ey l p 1 []).length=l.length - 1:=by
 unfold ey;simp;omega
theorem LM:MG:=by
 intro H u l p O hp W
 refine⟨by kernel_rfl,?_⟩
 rintro h rfl
 obtain⟨n,rfl,z⟩:=O.sl (by simp;omega)
 simp only[WG] at *
 have i:n < h.length:=eu (by rw[z];simp)
 refine⟨.sl n 0 (l.length - 1) 1,h.set n (.arr 1 (aM (ey l p 1 []))),⟨by simp,λZ μ F w xs v hr A=>?_⟩,λk hk s=>?_,?_,?_⟩
 rotate_left
 .rw[fQ i]
  simp only[View.set]
  rw[Ws (λe=>by rw[e,z] at s;simp at s)];exact s
 .exact .inr ⟨n,by rw[WG,AM hp],by rw[fQ i];simp[View.set]⟩
 .intro id P hu
  have M:id≠n:=λe=>hu (by rw[e];rfl)
  rw[fQ i]
  exact⟨by simp only[View.set];rw[Ws M],λe=>M (by simp[owner] at e;exact e.symm)⟩
 obtain⟨hlen,B⟩:=v
 obtain⟨C,D,E,rfl⟩:∃ C D E,xs=[C,D,E]:=by
  match xs,hlen with
  | [a,b,c],_=>exact⟨a,b,c,rfl⟩
 have Q:aw Z μ w.heap (.sl n 0 l.length 1) C:=B 0 (by simp)
 have h1:aw Z μ w.heap (gi p) D:=B 1 (by simp)
 have R:aw Z μ w.heap (gi ((p:Int)+1)) E:=B 2 (by simp)
 obtain rfl:=er h1
 obtain rfl:=er R
 rcases Dn Q with ⟨e,_⟩ | ⟨b,o0,cap,c0,X,f0,rfl,r,x,m,S⟩
 .omega
 have G:cat h F n=.arr 1 (aM l):=by simp only[cat];rw[Wv i,z]
 obtain⟨c,e,f,I,N,Y,J⟩:=D4 hr G r
 rw[m] at I
 simp only[Wu,Obj.cells.injEq] at I
 obtain⟨rfl,rfl,rfl⟩:=I
 have hH:Holds (Value.int .i64) w b o0 l.toArray:=λj t=>by
  have t:j < l.length:=by simpa using t
  refine⟨?_,Q0 m N (by omega)⟩
  rw[J j t]
  simp[Wo,t]
 have g:=Ji VG b o0 cap p (p+1) l.toArray w hH (by simpa using x) (by simp;omega) (by omega) (by simp;omega)
 rw[show ((p+1:Nat):Int)=(p:Int)+1 by omega] at g
 simp only[XN,Nat.zero_mul,XW] at g ⊢
 refine Calls.mono (show Calls Tryz.prog 144 _ w _ from g) ?_
 rintro e w' ⟨rfl,q,rfl⟩
 generalize s:(l.take p ++ l.drop (p+1) ++ List.replicate (p+1 - p) 0).toArray=d
 have K:d.size=l.length:=by rw[<-s];simp;omega
 have y:ez w (putRow (Value.int .i64) (Sort.ahead w q) b o0 d) b:=(ez.ahead w b q).trans (ez.map _ _ _ (λc=>by simp[putCells]))
 have o:Holds (Value.int .i64) (putRow (Value.int .i64) (Sort.ahead w q) b o0 d) b o0 d:=holds_putRow _ _ b o0 l.toArray d (holds_ahead _ w q b o0 _ hH) (by simp[K])
 obtain⟨T,k2⟩:=Uq (l':=ey l p 1 []) hr z r y m N (by rw[AM hp];omega) (λj t=>by
  rw[AM hp] at t
  rw[(o j (by omega)).1,<-s]
  unfold ey
  congr 2
  rw[getElem!_pos _ j (by simp;omega)]
  simp only[List.getElem_toArray,Xt,Wo]
  rw[List.getElem_append_left (by simp;omega),Wp (by simp;omega),WJ])
 obtain⟨U,L,V⟩:=y.cell _ _ _ m
 refine⟨_,Z,μ,rfl,?_,T,k2,λ_ _=>rfl⟩
 have:=aw.sl (Z:=Z) (μ:=μ) (hp:=(putRow (Value.int .i64) (Sort.ahead w q) b o0 d).heap) n 0 (l.length - 1) 1 b o0 cap U _ _ r (by omega) L (by omega)
 simpa using this
def FO (x:Int × Int × Int):List V:=[gi x.1,gi x.2.1,gi x.2.2]
theorem RL:xk Tryz.prog 74 (λx:Int × Int × Int=>FO x) (λx=>ba x.1/\ba x.2.1/\ba x.2.2):=λenc w base sp held fuel cs x h hw=>by
 obtain⟨e,d⟩:=tx Tryz.underlying74 (by
  intro i f hi
  match i,hi with
  | 0,hi=>simp at hi;subst hi;exact⟨rfl,by kernel_rfl⟩
  | 1,hi=>simp at hi;subst hi;exact⟨rfl,by kernel_rfl⟩
  | 2,hi=>simp at hi;subst hi;exact⟨rfl,by kernel_rfl⟩
  | n+3,hi=>simp at hi) (by kernel_rfl) h hw
 obtain⟨a,g,h1⟩:=d 0 _ rfl j0
 obtain⟨b,j,k⟩:=d 1 _ rfl j0
 obtain⟨c,l,m⟩:=d 2 _ rfl j0
 refine⟨⟨a,b,c⟩,⟨g,j,l⟩,?_⟩
 rw[T8 e]
 exact fq h1 (fq k (fq m wQ))
theorem Ae {g:ag} (a:g.Small):g.an.length<=1000:=by have:=a.names;omega
theorem ET (g:ag) (d:g.Ok) (a:g.Small) (m:Int):az Tryz.prog 41 [.agg (ak g),gi m] (CT (pO g m)) :=
 Rw BF LM g d a m (λb c=>by
  obtain⟨h1,e,f,h⟩:=TM (Ae a) c
  exact⟨by omega,e,f,h⟩) (by have:=(xL g).1;omega) (Ae a) λhm b c x i j=>RH hm c i j
theorem s0 (g:ag) (a:g.Ok) (b:g.Small) (w:List Int) (hw:aC w) (c:∀ x∈w,ba x) (p t m:Int) (d:ba t) :
 cd Tryz.prog 38 [.agg (ak g),encI w,gi p,gi t,gi m] (qG (gU g w p t m)):=QN BF g a b w hw c p t m d
noncomputable def TH:List (FuncId × DF):=vH Tryz.prog [(36,[]),(26,[])]
theorem MF:pN Tryz.prog TH:=r6 _ _
noncomputable def Sg:List C6:=[(44,[Bc Nq],rG cF,false),(44,[Bc R4],rG jv,false),
 (38,[.agg (ak cF),encI [0,1],gi 1,gi 0,gi 5],qG (([0,0],true),0),false),(38,[.agg (ak jv),encI [0],gi 0,gi 0,gi 5],qG (([],false),0),false),(38,[.agg (ak cF),encI [0],gi 2,gi 0,gi 5],qG (([],false),1),false),
 (41,[.agg (ak cF),gi 9],CT (BL,0),true),(41,[.agg (ak tg),gi 9],CT ([],1),true)]
theorem Qy:∀ x∈Sg,x.Ok Tryz.prog:=by
 intro x a
 simp only[Sg,WK,List.not_mem_nil,or_false] at a
 rcases a with rfl | rfl | rfl | rfl | rfl | rfl | rfl
 .exact⟨by kernel_rfl,.inl Uf⟩
 .exact⟨by kernel_rfl,.inl UZ⟩
 .exact⟨by kernel_rfl,.inl (UB ▸ s0 cF yg sj [0,1] (by unfold aC;decide) (by unfold ba;decide) 1 0 5 (by unfold ba;decide))⟩
 .exact⟨by kernel_rfl,.inl (UU ▸ s0 jv Ef.1 Ef.2 [0] (by unfold aC;decide) (by unfold ba;decide) 0 0 5 (by unfold ba;decide))⟩
 .exact⟨by kernel_rfl,.inl (Sx ▸ s0 cF yg sj [0] (by unfold aC;decide) (by unfold ba;decide) 2 0 5 (by unfold ba;decide))⟩
 .exact⟨by kernel_rfl,N8 ▸ ET cF yg sj 9⟩
 .exact⟨by kernel_rfl,UR ▸ ET tg UC ⟨by decide⟩ 9⟩
theorem MR:az Tryz.prog 36 [] (gb true) :=
 (nR mixed MF (IM Qy) (by simp) (by kernel_rfl)).pure
def kL:SF:=⟨ai [af [cJ 3 0,cJ 5 2,bc 6 false],ai [af [aT 14 36 [],cW 15 14],bf 15 (ai [af [bc 6 false],.ret])],ai [.region false [⟨none,[bj 16 4 3,aT 17 14 [16],aa 18 17]⟩,⟨(some (18,false)),[aa 19 1,aQ 20 19,aF 21 .gtr 20 9,aa 22 21]⟩,⟨(some (22,true)),[aa 23 1,aQ 24 23,aF 25 .lss 24 61]⟩,⟨(some (18,false)),[fe 26 22 25]⟩,⟨none,[b6 27 18 26,aa 28 27]⟩,⟨(some (28,false)),[aa 29 1,aQ 30 29,aF 31 .gtr 30 70]⟩,⟨none,[b6 32 28 31]⟩],bf 32 (ai [af [bc 6 true],.ret])],af [aa 33 1,aT 34 37 [33],aa 7 34],af [bj 36 4 3,aa 37 7,ay 38 0 5,au 39 38,ay 40 1 5,au 41 40,ay 42 2 5,au 43 42,aT 44 38 [36,37,39,41,43],aa 35 44,dO 45 0 35,dO 46 1 35,dO 47 2 35,aa 8 45,aa 9 46,aa 10 47],af [bj 49 4 3,aa 50 1,ay 51 0 5,au 52 51,ay 53 1 5,au 54 53,ay 55 2 5,au 56 55,aT 57 39 [49,50,52,54,56],aa 48 57,dO 58 0 48,dO 59 1 48,dO 60 2 48,aa 11 58,aa 12 59,aa 13 60],.region false [⟨none,[aa 61 8,aa 62 11,aT 63 26 [61,62],aa 64 63]⟩,⟨(some (64,true)),[aa 65 9,aa 66 12,((some 67),.op (.beq true (.tmp 65) (.tmp 66)))]⟩,⟨none,[fe 68 64 67,aa 69 68]⟩,⟨(some (69,true)),[aa 70 10,aa 71 13,aZ 72 .eql 70 71]⟩,⟨none,[fe 73 69 72,aa 74 73]⟩,⟨(some (74,true)),[aa 75 7,aa 76 1,aT 77 26 [75,76]]⟩,⟨none,[fe 78 74 77,aa 6 78]⟩],.ret],
 [.tmp 6],79⟩
theorem pq:aG Tryz.prog 9 [3,5]=some kL:=by kernel_rfl
theorem DW (g:ag) (o:g.Ok) (w:List Int) (hw:aC w) (q:∀ x∈w,ba x) (x:Int × Int × Int) (r:ba x.1/\ba x.2.1/\ba x.2.2):az Tryz.prog 9 [.agg (ak g),encI w,.agg (FO x)] (gb true):=by
 obtain⟨p,t,m⟩:=x
 obtain⟨_,f,_⟩:=r
 simp only at f
 refine az.val (by
  intro v b;simp at b
  rcases b with rfl | rfl | rfl
  .exact eR g _ (by simp)
  .exact aX _
  .exact cX _ λv b=>by
    simp[FO] at b
    rcases b with rfl | rfl | rfl <;> exact .val _) λH=>?_
 have i:=hw
 unfold aC at i
 refine ao.of mixed pq ?_
 simp(disch:=omega)only[↓wr,seval,wq,kL,ak,encS,encI,FO]
 refine aq.pure MR ?_
 simp(disch:=omega)only[↓wr,seval,wq,ak,encS]
 refine aq.pure (Rr g) ?_
 simp(disch:=omega)only[↓wr,seval,wq]
 apply aj.split<;>intro e
 .simp(disch:=omega)only[↓wr,seval,wq]
 have s:=Jd e
 have h1:=(s0 g o s w hw q p t m f).pure
 have j:=NT g o w hw q p t m f
 have c:=Kf w w hw
 have k:=λh=>(Og w h).pure
 have d:=Kf (gU g w p t m).1.1 (gU g w p t m).1.1
 have a:w.length<=100->aC (gU g w p t m).1.1:=λh=>by
  have hp:∀ n,(ey w p.toNat n [t]).length<=w.length+1:=λn=>by unfold ey;simp;omega
  unfold gU aC
  split
  .unfold iN
   split
   .have:=hp 1;simp only;omega
   .split
    .have:=hp 0;simp only;omega
    .simp
  .simp
 rw[beq_self_eq_true] at d c
 generalize gU g w p t m=y at *
 obtain⟨⟨u,z⟩,A⟩:=y
 simp only at d a
 simp only[ak,encS,encI] at h1 j c k
 simp(disch:=omega)only[↓wr,seval,wq,encI]
 apply aj.dec<;>intro c1
 .simp(disch:=omega)only[↓wr,seval,wq,encI]
  apply aj.dec<;>intro c2
  .simp(disch:=omega)only[↓wr,seval,wq]
  simp(disch:=omega)only[↓wr,seval,wq,encI]
  apply aj.dec<;>intro l
  .simp(disch:=omega)only[↓wr,seval,wq]
  simp(disch:=omega)only[↓wr,seval,wq,encI]
  refine aq.pure (k (by omega)) ?_
  simp(disch:=omega)only[↓wr,seval,wq,ak,encS]
  refine aq.pure h1 ?_
  simp(disch:=omega)only[↓wr,seval,wq,qG,ak,encS]
  refine aq.pure j ?_
  simp(disch:=omega)only[↓wr,seval,wq,qG]
  refine aq.pure (d (a (by omega))) ?_
  simp(disch:=omega)only[↓wr,seval,wq]
  refine aj.split (λ_=>?_) (λh=>absurd h (by simp))
  simp(disch:=omega)only[↓wr,seval,wq]
  refine aj.split (λ_=>?_) (λh=>absurd h (by simp))
  simp(disch:=omega)only[↓wr,seval,wq]
  refine aq.pure c ?_
  simp(disch:=omega)only[↓wr,seval,wq]
 .simp(disch:=omega)only[↓wr,seval,wq,encI]
  apply aj.dec<;>intro l
  .simp(disch:=omega)only[↓wr,seval,wq]
  simp(disch:=omega)only[↓wr,seval,wq,encI]
  refine aq.pure (k (by omega)) ?_
  simp(disch:=omega)only[↓wr,seval,wq,ak,encS]
  refine aq.pure h1 ?_
  simp(disch:=omega)only[↓wr,seval,wq,qG,ak,encS]
  refine aq.pure j ?_
  simp(disch:=omega)only[↓wr,seval,wq,qG]
  refine aq.pure (d (a (by omega))) ?_
  simp(disch:=omega)only[↓wr,seval,wq]
  refine aj.split (λ_=>?_) (λh=>absurd h (by simp))
  simp(disch:=omega)only[↓wr,seval,wq]
  refine aj.split (λ_=>?_) (λh=>absurd h (by simp))
  simp(disch:=omega)only[↓wr,seval,wq]
  refine aq.pure c ?_
  simp(disch:=omega)only[↓wr,seval,wq]
end Gv
