/-
  Part 12 of the proof: what the machine does and what the functions answer.
  Conditions: those that each lemma names.
-/
import Derived.Test.YtiophifnkakjgaaGreatSGzC1K
set_option linter.unusedSimpArgs false
set_option linter.unusedVariables false
set_option maxRecDepth 100000
set_option maxHeartbeats 20000000
namespace Gv
open Go Go.Proofs
def hZ:SC :=
 ae [ab [aQ 10 .lss 9 8],bX 10 (.exit 0),.block 1 (ae [ab [aO 11 1 7 9,ak 12 11,aa 5 12],ae [ab [aa 13 5,aF 14 .geq 13 0],bb 14 (ae [ab [aa 15 0,aa 16 0,fh 17 16,ao 18 6 17,ak 19 18,aa 20 5,((some 21),.op (.bJ 1 1 [(.val (.int .i64 0))] [(0,(.tmp 20))])),fD 22 1 8 19 21,fh 23 15,ao 24 6 23,cD 1 24 22],.exit 1])],ab [aa 25 0,fh 26 25,ao 27 4 26,ak 28 27,aa 29 5,((some 30),.op (.arith .sub (.val (.val (.int .i64 (-1)))) (.tmp 29))),aO 31 4 28 30,ao 32 0 31,ak 33 32,aa 6 33],ab [aa 34 0,aa 35 0,fh 36 35,ao 37 5 36,ak 38 37,aa 39 6,((some 40),.op (.bJ 1 1 [(.val (.int .i64 0))] [(0,(.tmp 39))])),fD 41 1 8 38 40,fh 42 34,ao 43 5 42,cD 1 43 41],ab [aa 44 0,aa 45 0,fh 46 45,ao 47 0 46,ao 48 2 47,ak 49 48,aa 50 6,aO 51 3 49 50,ao 52 1 51,ak 53 52,bk 54 197 [44,53]]]),ab [aF 55 .add 9 1,aa 9 55]]
def kJ:SF:=⟨ae [ab [aa 7 1,aN 8 7,aR 9 0],bZ 0 hZ],
 [],56⟩
theorem ng:aP Tryz.prog 197 []=some kJ:=by kernel_rfl
def j5 (g:af) (r w:V):List V:=[.aU (g.ai.map dg),.aU (g.al.map λs=>[gs s]),.aU (g.rules.map bg),gi g.start,jM (aD g),r,w]
def KN (g:af) (b:Nat) (R W:List Int) (H:View):Prop:=∃ ur uw,bq H [(.sl b 0 1 7,7,[j5 g ur uw]),(ur,1,bH R),(uw,1,bH W)]
theorem Kj (g:af) (hg:g.Ok) (hf:g.cY) (b:Nat):∀ (f:Nat) (l:List Int),aK l->(∀ x∈l,bM x/\(x < 0->-1 - x < g.al.length))->EB (aD g) f l->∀ (R W:List Int) (H:View),(R ++ fj g (aD g) f l).length<=100000->(W ++ eA g (aD g) f l).length<=2000000 ->
  KN g b R W H->aw Tryz.prog 197 [.ptr b 0 0,encI l] H λ_ H'=>KN g b (R ++ fj g (aD g) f l) (W ++ eA g (aD g) f l) H':=by
 intro f
 induction f using Nat.strongRecOn with
 | _ f ih =>
  intro l hl E hu R W H0 F G I
  refine aw.of mixed ng ?_
  unfold aK at hl
  simp(disch:=omega)only[↓wr,seval,wq,kJ,encI]
  refine ba.up l.length (λi T H'=>KN g b (R ++ fj g (aD g) f (l.take i)) (W ++ eA g (aD g) f (l.take i)) H'/\T 0=.ptr b 0 0/\T 7=encI l/\T 8=gi l.length/\T 9=gi i) ⟨by rw[List.take_zero,wi,sV,abS,abS];exact I,rfl,rfl,rfl,rfl⟩ ?_
  rintro i k T H hk ⟨⟨J,K,u⟩,t0,t7,t8,t9⟩
  simp(disch:=omega)only[↓wr,seval,wq,hZ,t0,t7,t8,t9,encI]
  apply aj.dec<;>intro hc
  .have q:l[i]?=some (l[i]'(by omega)):=aaB (by omega)
   have a:l[i]'(by omega)∈l:=aaL _
   have c:l.take (i+1)=l.take i ++ [l[i]'(by omega)]:=by rw[aa3,q];rfl
   have j:=S4 g f l (i+1)
   have d:=Rh g f l (i+1)
   generalize l[i]'(by omega)=x at q a c
   obtain⟨⟨an,aq⟩,L⟩:=E x a
   rw[c,jD] at j
   rw[c,jb] at d
   simp only[aa4] at F G j d
   have M:=u.is 0 rfl (by simp)
   simp(disch:=omega)only[↓wr,seval,wq,t0,t7,t8,t9,encI,aaE,q]
   apply aj.dec<;>intro D
   .rw[mV (show 0<=x from D)] at d
    simp only[aaN,aa8] at d
    simp(disch:=omega)only[↓wr,seval,wq,t0,t7,t8,t9,M,j5]
    intro n s
    rw[bz]
    simp(disch:=omega)only[↓wr,seval,wq,t0,t7,t8,t9]
    refine b6 ((u.at 2 (by simp)).fresh s) (by simp[aI]) (by unfold aC;simp;omega) (by unfold aC;simp;omega) ?_
    intro w H1 e _
    simp only[abg,abh] at e
    have t:=e.is 1 rfl (by simp)
    have c1:=e.head.cells
    have N:=e.head.fL
    simp(disch:=omega)only[↓wr,seval,wq,t0,t7,t8,t9,t,j5,c1,N]
    have z:=(e.at 1 (by simp)).put (es':=[j5 g J w]) rfl rfl
    simp only[abg,abh] at z
    refine aG hk (by omega) ⟨⟨J,w,?_⟩,t0,t7,t8,rfl⟩
    rw[c,jD,jb,pX (show 0<=x from D),mV (show 0<=x from D),abS]
    have O:=z.perm (.cons _ (.swap _ _ _))
    simpa [j5] using O
   .obtain⟨f,rfl⟩:∃ f',f=f'+1:=by
     cases f with
     | zero=>have:=Gf hu x a;omega
     | succ f=>exact⟨f,rfl⟩
    obtain⟨Q,Y⟩:=hu x a (by omega)
    obtain⟨Z,r,hi,hr,o,S,_⟩:=yK (f:=f) Q (by push_cast at Y;exact Y)
    have A:=B8 (P:=aD g) (m:=du x) (by rw[BE];have:=L (by omega);unfold du;omega)
    have B:=aaI hr
    have ar:Z < g.rules.length:=(aaR.1 hr).1
    have C:=hg.au r B
    rw[pr (by omega),o,hi] at j
    rw[pv (by omega),o] at d
    simp only[aaN] at j
    generalize U:bW (aD g) (du x)=p at A hi o
    simp(disch:=omega)only[↓wr,seval,wq,t0,t7,t8,t9,M,j5]
    simp(disch:=omega)only[↓wr,seval,wq,t0,t7,t8,t9,M,j5,A,ct,hi]
    intro n s
    rw[bz]
    simp(disch:=omega)only[↓wr,seval,wq,t0,t7,t8,t9]
    refine b6 ((u.at 1 (by simp)).fresh s) (by simp[aI]) (by unfold aC;simp;omega) (by unfold aC;simp;omega) ?_
    intro w H1 e _
    simp only[abg,abh] at e
    have t:=e.is 1 rfl (by simp)
    have c1:=e.head.cells
    have N:=e.head.fL
    simp(disch:=omega)only[↓wr,seval,wq,t0,t7,t8,t9,t,j5,c1,N,bg,aaE,hr,encI]
    have z:=(e.at 1 (by simp)).put (es':=[j5 g w K]) rfl rfl
    simp only[abg,abh] at z
    have h:=ih f (by omega) r.right C.2.2.1 (λy hy=>⟨C.2.2.2 y hy,λE=>hf.neg B hy E⟩) S (R ++ fj g (aD g) (f+1) (l.take i) ++ [(Z:Int)]) (W ++ eA g (aD g) (f+1) (l.take i)) _
     (by simp only[aa4,aaN,aa8];omega) (by simp only[aa4];omega) ⟨w,K,by simpa using z⟩
    simp only[j5,encI] at h
    refine ax.eM (h.mono ?_)
    rintro v H2 ⟨V,X,O⟩
    simp(disch:=omega)only[↓wr,seval,wq,t0,t7,t8,t9]
    refine aG hk (by omega) ⟨⟨V,X,?_⟩,t0,t7,t8,rfl⟩
    rw[c,jD,jb,pr (by omega),pv (by omega),U,hi,<-hi,o,hi]
    simpa using O
  .rw[aaS (by omega)] at u
   simp(disch:=omega)only[↓wr,seval,wq,t0,t7,t8,t9]
   exact⟨J,K,u⟩
def B7 (H:View) (u:V) (l:List Int):Prop:=u=encI l∨∃ (m:Nat) (x:Int),l=[x]/\x < 0/\u=.sl m 0 1 1/\H m=.arr 1 [[gi x]]
theorem B7.pK {H:View} {u:V} {l:List Int} (h:B7 H u l):cR H u (encI l):=by
 rcases h with rfl | ⟨m,x,rfl,_,rfl,hm⟩
 .exact cR.tree (cx l)
 .exact yR (l:=[x]) hm rfl
theorem B7.keep {H H':View} {u:V} {l:List Int} (h:B7 H u l) (hk:∀ id,H id≠.dead->H' id=H id):B7 H' u l:=by
 rcases h with rfl | ⟨m,x,rfl,a,rfl,hm⟩
 .exact .inl rfl
 .exact .inr ⟨m,x,rfl,a,rfl,by rw[hk m (by rw[hm];simp)];exact hm⟩
theorem KQ (g:af) (z:g.Ok) (A:g.cY) (b:Nat) (f:Nat) (l:List Int) (S:aK l) (t:∀ x∈l,bM x/\(x < 0->-1 - x < g.al.length)) (hu:EB (aD g) f l) (R W:List Int) (H:View) (c:(R ++ fj g (aD g) f l).length<=100000) (d:(W ++ eA g (aD g) f l).length<=2000000)
  (hw:KN g b R W H) (u:V) (hi:B7 H u l):aw Tryz.prog 197 [.ptr b 0 0,u] H λ_ H'=>KN g b (R ++ fj g (aD g) f l) (W ++ eA g (aD g) f l) H':=by
 rcases hi with rfl | ⟨m,x,rfl,U,rfl,hm⟩
 .exact Kj g z A b f l S t hu R W H c d hw
 .obtain⟨⟨X,Y⟩,B⟩:=t x (by simp)
  refine aw.of mixed ng ?_
  simp(disch:=omega)only[↓wr,seval,wq,kJ]
  refine ba.up 1 (λi T H'=>((i=0/\H'=H)∨(i=1/\KN g b (R ++ fj g (aD g) f [x]) (W ++ eA g (aD g) f [x]) H'))/\T 0=.ptr b 0 0/\T 7=.sl m 0 1 1/\T 8=gi 1/\T 9=gi i) ⟨.inl ⟨rfl,rfl⟩,rfl,rfl,rfl,rfl⟩ ?_
  rintro i k T H1 hk ⟨Z,t0,t7,t8,t9⟩
  rcases Z with ⟨rfl,rfl⟩ | ⟨rfl,w⟩
  .obtain⟨ur,J,w⟩:=hw
   have K:=w.is 0 rfl (by simp)
   simp(disch:=omega)only[↓wr,↓reduceIte,wq,Nat.reduceEqDiff,Nat.reduceAdd,Nat.reduceLT,Nat.reduceLeDiff,Int.reduceNeg,Int.reduceToNat,reduceCtorEq,hZ,t0,t7,t8,t9,hm]
   refine aj.dec (λ_=>?_) (λh=>absurd h (by decide))
   simp(disch:=omega)only[↓wr,seval,wq,t0,t7,t8,t9,hm]
   refine aj.dec (λh=>absurd h (by omega)) (λ_=>?_)
   obtain⟨f,rfl⟩:∃ f',f=f'+1:=by
    cases f with
    | zero=>have:=Gf hu x (by simp);omega
    | succ f=>exact⟨f,rfl⟩
   obtain⟨C,L⟩:=hu x (by simp) (by omega)
   obtain⟨M,r,hi,hr,e,D,_⟩:=yK (f:=f) C (by push_cast at L;exact L)
   have j:=B8 (P:=aD g) (m:=du x) (by rw[BE];have:=B (by omega);unfold du;omega)
   have o:=aaI hr
   have an:M < g.rules.length:=(aaR.1 hr).1
   have q:=z.au r o
   rw[pr (by omega),e,hi] at c ⊢
   rw[pv (by omega),e] at d ⊢
   simp only[aa4,aaN] at c d
   generalize aq:bW (aD g) (du x)=p at j hi e
   simp(disch:=omega)only[↓wr,seval,wq,t0,t7,t8,t9,K,j5]
   simp(disch:=omega)only[↓wr,seval,wq,t0,t7,t8,t9,K,j5,j,ct,hi]
   intro n E
   rw[bz]
   simp(disch:=omega)only[↓wr,seval,wq,t0,t7,t8,t9]
   refine b6 ((w.at 1 (by simp)).fresh E) (by simp[aI]) (by unfold aC;simp;omega) (by unfold aC;simp;omega) ?_
   intro N H1 s _
   simp only[abg,abh] at s
   have F:=s.is 1 rfl (by simp)
   have c1:=s.head.cells
   have k1:=s.head.fL
   simp(disch:=omega)only[↓wr,seval,wq,t0,t7,t8,t9,F,j5,c1,k1,bg,aaE,hr,encI]
   have O:=(s.at 1 (by simp)).put (es':=[j5 g N J]) rfl rfl
   simp only[abg,abh] at O
   have a:=Kj g z A b f r.right q.2.2.1 (λy Q=>⟨q.2.2.2 y Q,λt=>A.neg o Q t⟩) D (R ++ [(M:Int)]) W _
    (by simp only[aa4,aaN,aa8];omega) (by simp only[aa4];omega) ⟨N,J,by simpa using O⟩
   simp only[j5,encI] at a
   refine ax.eM (a.mono ?_)
   rintro v H2 ⟨G,I,o3⟩
   simp(disch:=omega)only[↓wr,seval,wq,t0,t7,t8,t9]
   exact⟨0,by omega,1,by omega,.inr ⟨rfl,G,I,by simpa using o3⟩,t0,t7,t8,rfl⟩
  .simp(disch:=omega)only[↓wr,↓reduceIte,wq,Nat.reduceEqDiff,Nat.reduceAdd,Nat.reduceLT,Nat.reduceLeDiff,Int.reduceNeg,Int.reduceToNat,reduceCtorEq,hZ,t0,t7,t8,t9]
   refine aj.dec (λh=>absurd h (by decide)) (λ_=>?_)
   simp(disch:=omega)only[↓wr,seval,wq,t0,t7,t8,t9]
   exact w
def v8:SF:=⟨ae [ab [cF 3 0,((some 6),.op (.eJ (.val (.val (.pointer none))))),aR 7 0],.region true [⟨none,[aZ 11 4 3,aZ 12 4 3,bk 13 195 [12],((some 14),.op (.build [(.emp 1),(.emp 1),(.emp 1),(.val (.int .i64 0)),(.emp 1),(.emp 1),(.emp 1)] [(0,4,(.tmp 11)),(4,1,(.tmp 13))])),((some 15),.op (.box (.tmp 14))),aa 8 15]⟩],ab [aa 17 1,aa 18 8,fh 19 18,ao 20 4 19,ak 21 20,bk 22 196 [17,21],aa 16 22,dr 23 0 16,dr 24 1 16,((some 9),.op (.alloc [(.val (.int .i64 0)),(.val (.int .i64 0)),(.val (.int .i64 0)),(.val (.int .i64 0))])),cD 4 9 23,aa 10 24],.block 0 (ae [ab [aa 26 10,c9 27 26,aa 25 27],.cond (.tmp 25) (ae [ab [((some 6),.op (.eJ (.val (.val (.pointer none))))),aR 7 9],.ret]) (ae [.region false [⟨none,[ao 29 2 9,ak 30 29,aF 31 .gtr 30 300,aa 32 31]⟩,⟨(some (32,false)),[ao 33 3 9,ak 34 33,aa 35 2,aQ 36 .gtr 34 35]⟩,⟨none,[cy 37 32 36,aa 28 37]⟩],bb 28 (ae [ab [((some 6),.op (.eJ (.val (.val (.pointer none))))),aR 7 13],.ret])])]),ab [aa 38 8,aa 39 1,bk 40 197 [38,39]],ab [aa 41 8,aa 6 41,aR 7 0],.ret],
 [.tmp 6,.tmp 7],42⟩
theorem Ba:aP Tryz.prog 131 [3]=some v8:=by kernel_rfl
def Gz:V:=.val (.pointer none)
def X9 (g:af) (l:List Int) (t:Int) (r:V) (H:View):Prop :=
 ((cb (aD g) l bF).2=false/\r=.bf [Gz,gi 9]) ∨
 ((cb (aD g) l bF).2=true/\(300 < (cb (aD g) l bF).1.rules∨t < (cb (aD g) l bF).1.ai)/\r=.bf [Gz,gi 13]) ∨
 ((cb (aD g) l bF).2=true/\¬ (300 < (cb (aD g) l bF).1.rules∨t < (cb (aD g) l bF).1.ai)/\∃ b,r=.bf [.ptr b 0 0,gi 0]/\KN g b (fj g (aD g) g.al.length l) (eA g (aD g) g.al.length l) H)
theorem Qg (g:af) (A:g.Ok) (d:g.cY) (l:List Int) (L:l.length<=1000000) (z:∀ x∈l,bM x/\(x < 0->-1 - x < g.al.length)) (t:Int) (u:V) (H:View) (hi:B7 H u l) :
  aw Tryz.prog 131 [.agg (ag g),u,gi t] H (X9 g l t):=by
 have e:aK l:=by unfold aK;omega
 have z2:=d.al
 have z3:=d.rules
 refine aw.of mixed Ba ?_
 simp(disch:=omega)only[↓wr,seval,wq,v8,ag,encS]
 refine ax.pure (Vk g A d).pure ?_
 simp(disch:=omega)only[↓wr,seval,wq]
 intro b B
 have f:B7 (H.set b (.arr 7 [j5 g (.emp 1) (.emp 1)])) u l:=hi.keep λid a=>by
  have:id≠b:=by rintro rfl;exact a B
  simp[View.set,this]
 try simp(disch:=omega)only[↓wr,seval,wq]
 have C:∀ m,C3 (bW (aD g) m):=λm=>JS z3 z2 m
 refine ax.ub (R3 (aD g) C l e λx i=>⟨(z x i).1,λh=>by rw[BE];exact(z x i).2 h⟩) (by kernel_rfl) ⟨f.pK,cR.tree (tX _),trivial⟩ ?_
 have j:=λ(h:lW (aD g) l)=>And.intro (QU h) (pc g g.al.length l bF (uI h) kO)
 have p:=kn (aD g) l bF
 have F:=Im d.right g.al.length l
 have q:=uQ (λm=>(C m).1) l bF kO
 unfold X9
 generalize G:cb (aD g) l bF=sp at p q j ⊢
 unfold gS at q
 simp(disch:=omega)only[↓wr,seval,wq,ct]
 intro n r
 have s:=(cq r cm).1
 have w:=(cq r cm).2
 try simp(disch:=omega)only[↓wr,seval,wq,ct]
 apply aj.split<;>intro c
 .have y:=p.1 c
  simp(disch:=omega)only[↓wr,seval,wq,ct]
  apply aj.dec<;>intro D
  .simp(disch:=omega)only[↓wr,seval,wq]
   exact .inr (.inl ⟨c,.inl D,rfl⟩)
  .simp(disch:=omega)only[↓wr,seval,wq,ct]
   apply aj.dec<;>intro E
   .simp(disch:=omega)only[↓wr,seval,wq]
    exact .inr (.inl ⟨c,.inr E,rfl⟩)
   .simp(disch:=omega)only[↓wr,seval,wq,ct]
    have I:=(bq.nil (H:=H)).new B 7 [j5 g (.emp 1) (.emp 1)]
    have J:=(j y).1 (by omega)
    have i:=KQ g A d b g.al.length l e z (uI y) [] [] (((H.set b (.arr 7 [j5 g (.emp 1) (.emp 1)])).set n (.arr 4 [[gi 0,gi 0,gi 0,gi 0]])).set n (.arr 4 [ct sp.1]))
     (by simp only[abG];omega) (by simp only[abG];omega)
     ⟨.emp 1,.emp 1,by
      rw[set_set]
      have K:=I.fresh (n:=n) (o:=.arr 4 [ct sp.1]) (by simp[View.set,s,w])
      exact((K.emp (k:=1) (sz:=1)).emp (k:=1) (sz:=1)).perm (DQ.trans (.swap _ _ _))⟩ u
     (f.keep λid a=>by
      have:id≠n:=by rintro rfl;simp[View.set,s,w] at a
      simp[View.set,this])
    simp only[abG,j5,ct] at i
    refine ax.eM (i.mono ?_)
    intro v H1 hw
    simp(disch:=omega)only[↓wr,seval,wq]
    exact .inr (.inr ⟨c,by omega,b,rfl,hw⟩)
 .simp(disch:=omega)only[↓wr,seval,wq]
  exact .inl ⟨c,rfl⟩
def xZ:SF:=⟨ae [ab [bB 3 false],ab [aZ 4 4 1,aa 5 0,bk 6 130 [4,5],c9 7 6,aa 3 7],.ret],
 [.tmp 3],8⟩
theorem CB:aP Tryz.prog 129 []=some xZ:=by kernel_rfl
def Bx:SF:=⟨ae [ab [cF 2 0,bT 4 1,aR 5 0],ae [.region false [⟨none,[aZ 8 4 2,bk 9 89 [8],c9 10 9,aa 11 10]⟩,⟨(some (11,false)),[aa 12 1,((some 13),.op (.xl 129 [] [(.tmp 2)])),bk 14 90 [12,13]]⟩,⟨none,[cy 15 11 14]⟩],bb 15 (ae [ab [bT 4 1,aR 5 1],.ret])],ab [aZ 17 4 2,aa 18 1,qw 19 131 [(.tmp 17),(.tmp 18),(.val (.val (.int .i64 60)))],aa 16 19,dr 20 0 16,dr 21 1 16,aa 6 20,aa 7 21],ae [ab [aa 22 7,aF 23 .neq 22 0],bb 23 (ae [ab [aa 24 7,bT 4 1,aa 5 24],.ret])],ab [aa 25 6,fh 26 25,ao 27 6 26,ak 28 27,aa 4 28,aR 5 0],.ret],
 [.tmp 4,.tmp 5],29⟩
theorem EZ:aP Tryz.prog 67 [2]=some Bx:=by kernel_rfl
theorem Rt (g:af) (x:Int) (b:bM x):az Tryz.prog 129 [gi x,.aL (ag g) 0] (gb (!dL g x)):=by
 refine az.val (by
  intro v a;simp at a
  rcases a with rfl | rfl
  .exact .val _
  .exact jX (cd g)) λH=>?_
 refine aw.of mixed CB ?_
 simp(disch:=omega)only[↓wr,seval,wq,xZ,ag,encS]
 refine ax.pure (Od g x b) ?_
 simp(disch:=omega)only[↓wr,seval,wq]
theorem JP (g:af) (s:g.Ok) (w:g.Small) (l:List Int) (y:l.length<=1000000) (t:∀ x∈l,bM x):cK Tryz.prog 67 [.agg (ag g),encI l] (PJ (dy g l)):=by
 have o:aK l:=by unfold aK;omega
 refine cK.of (by
  intro v f;simp at f
  rcases f with rfl | rfl
  .exact bL _ (cd g)
  .exact cx l) ?_
 refine aw.of mixed EZ ?_
 simp(disch:=omega)only[↓wr,seval,wq,Bx,ag,encS]
 refine ax.pure (vN g s w.names) ?_
 have bad:∀ c:aE,(bp g && l.all (dL g))=false->cM c (.bf [.emp 1,gi 1]) (PJ (dy g l)):=λc e=>by
  unfold dy;rw[aaD (by rw[e];simp)];exact yX (x:=([],1)) (.emp _)
 have h:=ou l o 129 [.aL (ag g) 0] (by intro v f;simp at f;subst f;exact jX (cd g)) (λx=>!dL g x) (λx n=>Rt g x (t x n)) (by kernel_rfl)
 simp only[ag,encS] at h
 simp(disch:=omega)only[↓wr,seval,wq,ag,encS]
 apply aj.split<;>intro hr
 .simp(disch:=omega)only[↓wr,seval,wq,ag,encS]
  refine ax.pure h ?_
  have i:l.any (λx=>!dL g x) = !l.all (dL g):=by rw[List.not_all_eq_any_not]
  rw[i]
  simp(disch:=omega)only[↓wr,seval,wq,ag,encS]
  apply aj.split<;>intro a
  .have z:=bj hr
   have d:dy g l=_:=aaF (by rw[hr,a];rfl)
   simp(disch:=omega)only[↓wr,seval,wq,ag,encS]
   have p:∀ x∈l,bM x/\(x < 0->-1 - x < g.al.length):=λx n=>⟨t x n,λA=>by
    have:=aaZ.1 a x n
    unfold dL at this
    rw[aaD (by omega)] at this
    simpa using this⟩
   have hw:=Qg g s z l y p 60 (encI l) (λ_=>.dead) (.inl rfl)
   simp only[ag,encS] at hw
   refine ax.eM (hw.mono ?_)
   rintro r H1 (⟨j,rfl⟩ | ⟨j,q,rfl⟩ | ⟨j,q,b,rfl,C,D,u⟩)
   .simp(disch:=omega)only[↓wr,↓reduceIte,wq,Nat.reduceEqDiff,Nat.reduceAdd,Nat.reduceLT,Nat.reduceLeDiff,Int.reduceNeg,Int.reduceToNat,reduceCtorEq,Gz]
    refine aj.ne (λ_=>?_) (λk=>absurd k (by decide))
    simp(disch:=omega)only[↓wr,seval,wq,Gz]
    rw[aaF j] at d
    intro c _
    rw[d];exact yX (x:=([],9)) (.emp _)
   .simp(disch:=omega)only[↓wr,↓reduceIte,wq,Nat.reduceEqDiff,Nat.reduceAdd,Nat.reduceLT,Nat.reduceLeDiff,Int.reduceNeg,Int.reduceToNat,reduceCtorEq,Gz]
    refine aj.ne (λ_=>?_) (λk=>absurd k (by decide))
    simp(disch:=omega)only[↓wr,seval,wq,Gz]
    rw[aaD (by rw[j];simp),aaF q] at d
    intro c _
    rw[d];exact yX (x:=([],13)) (.emp _)
   .rw[aaD (by rw[j];simp),aaD q] at d
    have m:=u.is 0 rfl (by simp)
    simp(disch:=omega)only[↓wr,↓reduceIte,wq,Nat.reduceEqDiff,Nat.reduceAdd,Nat.reduceLT,Nat.reduceLeDiff,Int.reduceNeg,Int.reduceToNat,reduceCtorEq,m,j5]
    refine aj.ne (λk=>absurd rfl k) (λ_=>?_)
    simp(disch:=omega)only[↓wr,seval,wq,m,j5]
    intro c B
    rw[d];exact yX (x:=(_,0)) (kK (by rw[B];exact u.own 2 rfl))
  .simp(disch:=omega)only[↓wr,seval,wq,ag,encS]
   intro c _
   exact bad c (by rw[a,acy])
 .simp(disch:=omega)only[↓wr,seval,wq,ag,encS]
  intro c _
  exact bad c (by rw[hr,ab2])
abbrev WA (l:List (List Int)):List (List V):=l.map λw=>[encI w]
def kU (H:View) (u:V) (l:List Int):Prop:=∃ (id off:Nat) (es:List (List V)),u=.sl id off l.length 1/\H id=.arr 1 es/\off+l.length<=es.length/\(es.drop off).take l.length=bH l
theorem kU.keep {H H':View} {u:V} {l:List Int} (h:kU H u l) (hk:∀ id es,H id=.arr 1 es->H' id=H id):kU H' u l:=by
 obtain⟨id,off,es,h1,a,b,c⟩:=h
 exact⟨id,off,es,h1,by rw[hk id es a];exact a,b,c⟩
theorem kU.fresh {H:View} {u:V} {l:List Int} (h:kU H u l) {n:Nat} {o:dG} (b:H n=.dead):kU (H.set n o) u l :=
 h.keep λid es a=>by
  have:id≠n:=by rintro rfl;rw[b] at a;simp at a
  simp[View.set,this]
theorem kU.own {H:View} {u:V} {l:List Int} (h:aT H u 1 (bH l)) (a:l≠[]):kU H u l:=by
 rcases h with ⟨e,_⟩ | ⟨n,rfl,b⟩
 .rw[List.map_eq_nil_iff] at e;exact absurd e a
 .exact⟨n,0,_,by simp,b,by simp,by rw[abP,aaS (by simp)]⟩
theorem E5 {bytes:Nat} {u:V} {l xs:List Int} {H:View} {K:V->View->Prop} {w:cX (H,K)} (b:kU H u l) (g:xs≠[])
  (h:(l.length+xs.length) * bytes < aC) (c:l.length+xs.length < aC) (hk:∀ d H',aT H' d 1 (bH (l ++ xs))->Left H H' u d->K d H'):lK 1 bytes u (bH xs) H K w:=by
 have he:(bH xs).isEmpty=false:=by cases xs with | nil=>exact absurd rfl g | cons=>rfl
 obtain⟨id,off,es,rfl,i,j,k⟩:=b
 rw[rB _ _ _ _ _ _ _ _ _ _ he,i]
 refine⟨by simp[acg,aI],⟨j,rfl,by simpa using h,by simpa using c⟩,λm hm=>hk _ _ ?_ ?_⟩
 .refine .inr ⟨m,by simp,?_⟩
  rw[k];simp[View.set]
 .intro a f b
  have e:a≠m:=by rintro rfl;exact f hm
  have n:a≠id:=by rintro rfl;exact b rfl
  exact⟨by simp[View.set,e,n],by simp[owner,Ne.symm e]⟩
def O2 (x:List Int × Int × Int):V:=.bf [encI x.1,gi x.2.1,gi x.2.2]
theorem zq {h:aE} {u:V} {x:List Int × Int × Int} (hu:cM h u (encI x.1)):cM h (.bf [u,gi x.2.1,gi x.2.2]) (O2 x):=.bf _ _ rfl λi hi=>by
 match i,hi with
 | 0,_=>exact hu
 | 1,_=>exact .val _
 | 2,_=>exact .val _
theorem kU.all {H:View} {u:V} {l:List Int} (h:kU H u l):∃ (id off:Nat) (es:List (List V)),u=.sl id off l.length 1/\H id=.arr 1 es/\off+l.length<=es.length/\∀ j,j < l.length->es.getD (off+j) []=[gi (l.getD j 0)]:=by
 obtain⟨id,off,es,h1,c,d,e⟩:=h
 refine⟨id,off,es,h1,c,d,λj a=>?_⟩
 have b:=abN (λz=>z[j]?) e
 simp only[abX,a,if_true,acw,aaE,aaB a,aaH] at b
 rw[aaA,b,aaA,aaB a];rfl
theorem kU.take {H:View} {id off k:Nat} {l:List Int} (h:kU H (.sl id off k 1) l) {m:Nat} (hm:m<=l.length):kU H (.sl id off m 1) (l.take m):=by
 obtain⟨c,a,es,h1,d,f,e⟩:=h
 simp only[V.sl.injEq,and_true] at h1
 obtain⟨rfl,rfl,rfl⟩:=h1
 refine⟨id,off,es,by simp;omega,d,by simp;omega,?_⟩
 have b:=abN (List.take m) e
 rw[List.take_take,show min m l.length=m by omega] at b
 rw[show (l.take m).length=m by simp;omega,b]
 exact List.map_take.symm
theorem CN {id off k m:Nat} (hm:m<=k):dA 1 (.sl id off k 1) none (some (gi m))=some (.sl id off m 1,.none,[]):=by
 simp[dA,bound,asNat,hm]
theorem Xw (g:af) (t:iz) (w:List Int) (k:Nat) (st rs:List Int) (at_:Nat):kz g t w k st rs at_=(
  if (dI t (c5 st) (cp g w at_)).kind=3/\at_=w.length then (rs,(at_:Int),(0:Int))
  else if (dI t (c5 st) (cp g w at_)).kind=0∨(dI t (c5 st) (cp g w at_)).kind=3∨(dI t (c5 st) (cp g w at_)).kind=1/\at_=w.length then ([],(at_:Int),3)
  else match k with
   | 0=>([],(at_:Int),14)
   | k+1 =>
    if (dI t (c5 st) (cp g w at_)).kind=1 then kz g t w k (st ++ [(dI t (c5 st) (cp g w at_)).n]) rs (at_+1)
    else if st.length<=(aA g (dI t (c5 st) (cp g w at_)).n).right.length then ([],(at_:Int),3)
    else if mR t (c5 (st.take (st.length - (aA g (dI t (c5 st) (cp g w at_)).n).right.length))) (aA g (dI t (c5 st) (cp g w at_)).n).left = -1 then ([],(at_:Int),3)
    else kz g t w k (st.take (st.length - (aA g (dI t (c5 st) (cp g w at_)).n).right.length) ++ [mR t (c5 (st.take (st.length - (aA g (dI t (c5 st) (cp g w at_)).n).right.length))) (aA g (dI t (c5 st) (cp g w at_)).n).left])
     (rs ++ [(dI t (c5 st) (cp g w at_)).n]) at_):=by
 cases k <;> (conv=>lhs;unfold kz) <;> rfl
theorem Yt {es:List (List V)} {off:Nat} {st:List Int} (h:∀ j,j < st.length->es.getD (off+j) []=[gi (st.getD j 0)]) (a:0 < st.length):es.getD (off+((st.length:Int) - 1).toNat) []=[gi (c5 st)]:=by
 have:=h (st.length - 1) (by omega)
 rw[show ((st.length:Int) - 1).toNat=st.length - 1 by omega,this,c5]
theorem R5 {g:af} {w:List Int} (hw:∀ x∈w,0<=x/\x < (g.ai.length:Int)) (i:Nat):0<=cp g w i/\cp g w i<=g.ai.length:=by
 unfold cp
 split
 .rename_i h
  have:=hw _ (aaI (getD_some (d:=0) h))
  omega
 .omega
theorem SK (g:af) (t:iz) (w:List Int):vd g t w=if (sf g w && jK g t)=true then kz g t w 2000 [0] [] 0 else ([],0,1):=by
 unfold vd sf AS
 rfl
theorem Us (g:af) (t:iz) (w:List Int):∀ v∈[V.agg (ag g),.agg (cW t),encI w],Tree v:=by
 intro v a;simp at a
 rcases a with rfl | rfl | rfl
 .exact bL _ (cd g)
 .exact bL _ (wK t)
 .exact cx w
theorem UN {g:af} {w:List Int} (h:sf g w=true):w.length<=60/\∀ x∈w,0<=x/\x < (g.ai.length:Int):=by
 unfold sf AS at h
 simp only[aaK,aaP,aaZ] at h
 exact⟨h.1.2,h.2⟩
theorem HB {g:af} {n:Nat} {c:Cell} (h:iN g n c=true):(c.kind=0∨c.kind=3)∨(c.kind=1/\0<=c.n/\c.n < n)∨(c.kind=2/\0<=c.n/\c.n < g.rules.length):=by
 unfold iN at h
 split at h
 .rename_i e;exact .inl e
 .split at h
  .rename_i e;simp at h;exact .inr (.inl ⟨e,h⟩)
  .split at h
   .rename_i e;simp at h;exact .inr (.inr ⟨e,h⟩)
   .simp at h
def pa:SC :=
 ae [.block 1 (ae [ab [ao 31 0 3,ak 32 31,aN 33 32,aa 13 33],ae [ab [aa 34 11,aa 35 2,aN 36 35,aQ 37 .lss 34 36],bb 37 (ab [aa 38 2,aa 39 11,aO 40 1 38 39,ak 41 40,aa 13 41])],ab [aa 42 9,aa 43 9,aN 44 43,aF 45 .sub 44 1,aO 46 1 42 45,ak 47 46,aa 14 47],ab [ao 48 0 4,ak 49 48,aa 50 14,aO 51 1 49 50,ak 52 51,aa 53 13,aO 54 2 52 53,aZ 55 2 54,((some 15),.op (.alloc [(.val (.int .i64 0)),(.val (.int .i64 0))])),cD 2 15 55],ae [.region false [⟨none,[ao 56 0 15,ak 57 56,aF 58 .eql 57 3,aa 59 58]⟩,⟨(some (59,true)),[aa 60 11,aa 61 2,aN 62 61,aQ 63 .eql 60 62]⟩,⟨none,[eO 64 59 63]⟩],bb 64 (ae [ab [aa 65 10,aa 66 11,aa 6 65,aa 7 66,aR 8 0],.ret])],ae [.region false [⟨none,[ao 67 0 15,ak 68 67,aF 69 .eql 68 0,aa 70 69]⟩,⟨(some (70,false)),[ao 71 0 15,ak 72 71,aF 73 .eql 72 3]⟩,⟨none,[cy 74 70 73,aa 75 74]⟩,⟨(some (75,false)),[ao 76 0 15,ak 77 76,aF 78 .eql 77 1,aa 79 78]⟩,⟨(some (79,true)),[aa 80 11,aa 81 2,aN 82 81,aQ 83 .eql 80 82]⟩,⟨(some (75,false)),[eO 84 79 83]⟩,⟨none,[cy 85 75 84]⟩],bb 85 (ae [ab [aa 86 11,bT 6 1,aa 7 86,aR 8 3],.ret])],ae [ab [aa 87 12,aF 88 .eql 87 2000],bb 88 (ae [ab [aa 89 11,bT 6 1,aa 7 89,aR 8 14],.ret])],ae [ab [ao 90 0 15,ak 91 90,aF 92 .eql 91 1],bb 92 (ae [ab [aa 93 9,ao 94 1 15,ak 95 94,((some 96),.op (.bJ 1 1 [(.val (.int .i64 0))] [(0,(.tmp 95))])),fD 97 1 8 93 96,aa 9 97],ab [aa 98 11,aF 99 .add 98 1,aa 11 99],.exit 1])],ab [ao 100 2 3,ak 101 100,ao 102 1 15,ak 103 102,aO 104 3 101 103,aZ 105 3 104,((some 16),.op (.alloc [(.val (.int .i64 0)),(.emp 1),(.val (.int .i64 0))])),cD 3 16 105],ae [ab [ao 106 1 16,ak 107 106,aN 108 107,aa 109 9,aN 110 109,aQ 111 .geq 108 110],bb 111 (ae [ab [aa 112 11,bT 6 1,aa 7 112,aR 8 3],.ret])],ab [aa 113 9,aa 114 9,aN 115 114,ao 116 1 16,ak 117 116,aN 118 117,aQ 119 .sub 115 118,((some 120),.op (.slice 1 (.tmp 113) none (some (.tmp 119)))),aa 9 120],ab [ao 121 1 4,ak 122 121,aa 123 9,aa 124 9,aN 125 124,aF 126 .sub 125 1,aO 127 1 123 126,ak 128 127,aO 129 1 122 128,ak 130 129,ao 131 0 16,ak 132 131,aO 133 1 130 132,ak 134 133,aa 17 134],ae [ab [aa 135 17,aF 136 .eql 135 (-1)],bb 136 (ae [ab [aa 137 11,bT 6 1,aa 7 137,aR 8 3],.ret])],ab [aa 138 9,aa 139 17,((some 140),.op (.bJ 1 1 [(.val (.int .i64 0))] [(0,(.tmp 139))])),fD 141 1 8 138 140,aa 9 141],ab [aa 142 10,ao 143 1 15,ak 144 143,((some 145),.op (.bJ 1 1 [(.val (.int .i64 0))] [(0,(.tmp 144))])),fD 146 1 8 142 145,aa 10 146]]),ab [aa 29 12,aF 30 .add 29 1,aa 12 30]]
def rm:SF:=⟨ae [ab [cF 3 0,cF 4 1,bT 6 1,aR 7 0,aR 8 0],ae [.region false [⟨none,[aZ 18 4 3,aa 19 2,bk 20 17 [18,19],c9 21 20,aa 22 21]⟩,⟨(some (22,false)),[aZ 23 4 3,aZ 24 2 4,bk 25 51 [23,24],c9 26 25]⟩,⟨none,[cy 27 22 26]⟩],bb 27 (ae [ab [bT 6 1,aR 7 0,aR 8 1],.ret])],ab [((some 28),.op (.bJ 1 1 [(.val (.int .i64 0))] [(0,(.val (.val (.int .i64 0))))])),aa 9 28],ab [bT 10 1],ab [aR 11 0],ab [aR 12 0],bZ 0 pa],
 [.tmp 6,.tmp 7,.tmp 8],147⟩
theorem xD:aP Tryz.prog 18 [3,4]=some rm:=by kernel_rfl
theorem Pa (g:af) (hg:g.Ok) (t:iz) (ht:t.Ok) (w:List Int) (hw:aK w) (hn:∀ x∈w,bM x):cK Tryz.prog 18 [.agg (ag g),.agg (cW t),encI w] (O2 (vd g t w)):=by
 refine cK.of (Us g t w) ?_
 have bn:=TL g hg w hw hn
 have br:=Pm g hg t ht
 refine aw.of mixed xD ?_
 simp only[ag,encS,cW,encI] at bn br
 rw[SK]
 simp(disch:=omega)only[↓wr,seval,wq,rm,ag,encS,cW,encI]
 refine ax.pure bn ?_
 simp(disch:=omega)only[↓wr,seval,wq]
 apply aj.split<;>intro C
 rotate_left
 .simp(disch:=omega)only[↓wr,seval,wq]
  intro p _
  rw[C]
  exact zq (x:=([],0,1)) (.emp _)
 simp(disch:=omega)only[↓wr,seval,wq,ag,encS,cW]
 refine ax.pure br ?_
 simp(disch:=omega)only[↓wr,seval,wq]
 apply aj.split<;>intro O
 rotate_left
 .simp(disch:=omega)only[↓wr,seval,wq]
  intro p _
  rw[C,O]
  exact zq (x:=([],0,1)) (.emp _)
 have z:=wP O
 have hf:=bj z.right
 obtain⟨da,bs⟩:=UN C
 rw[C,O]
 simp only[Bool.and_self,if_true]
 generalize hX:kz g t w 2000 [0] [] 0=X
 simp(disch:=omega)only[↓wr,seval,wq]
 intro m
 refine ba.up 2001 (λi T H'=>∃ (us ur:V) (st rs:List Int) (at_:Nat),i<=2000/\kz g t w (2000 - i) st rs at_=X/\Ld t st/\kU H' us st/\aT H' ur 1 (bH rs)/\(∀ id,owner us=some id->owner ur≠some id)/\at_<=w.length/\st.length<=i+1/\rs.length<=i /\
  T 2=encI w/\T 3=.aL (ag g) 0/\T 4=.aL (cW t) 0/\T 9=us/\T 10=ur/\T 11=gi at_/\T 12=gi i) ?_ ?_
 .refine⟨.sl m 0 1 1,.emp 1,[0],[],0,by omega,hX,⟨by simp,by have:=z.n1;intro x hx;simp at hx;subst hx;omega⟩,?_,.nil,by simp[owner],by omega,by simp,by simp,rfl,rfl,rfl,rfl,rfl,rfl,rfl⟩
  exact kU.own (.inr ⟨m,rfl,by simp[View.set]⟩) (by simp)
 rintro i k T H' hk ⟨us,ur,st,rs,at_,hi,a,D,bx,cu,E,db,dj,dm,t2,t3,t4,t9,t10,t11,t12⟩
 obtain⟨a1,a2⟩:=R5 bs at_
 obtain⟨r,l,P,A,Q,ds,b0⟩:=bx.all
 have b1:=ab7.2 D.1
 have b3:=D.2 _ (LG D.1)
 have F:=Yt b0 b1
 obtain⟨ar,G⟩:=z.cell (s:=c5 st) (x:=cp g w at_) b3 ⟨a1,a2⟩
 rw[Xw] at a
 have H:t.bo[(c5 st).toNat]?=some (t.bo.getD (c5 st).toNat []):=getD_some (by omega)
 have a6:=(z.qE (i:=(c5 st).toNat) (by omega)).1
 generalize hc:dI t (c5 st) (cp g w at_)=c at a ar G
 generalize t.bo.getD (c5 st).toNat []=row at H G a6
 simp(disch:=omega)only[↓wr,seval,wq,pa,t2,t3,t4,t9,t10,t11,t12,ag,encS,encI]
 apply aj.dec<;>intro hx
 have a7:w[at_]?=some (cp g w at_):=by
  unfold cp;rw[aaF (by omega)];exact getD_some (by omega)
 simp(disch:=omega)only[↓wr,seval,wq,t2,t3,t4,t9,t10,t11,t12,cW,encI,aaE,a7,aaH,A,Q,F,H,G,dp]
 rotate_left
 have a7:cp g w at_=g.ai.length:=by unfold cp;rw[aaD (by omega)]
 rw[a7,aa0] at G
 simp(disch:=omega)only[↓wr,seval,wq,t2,t3,t4,t9,t10,t11,t12,cW,encI,aaE,aaH,A,Q,F,H,G,dp]
 rotate_left
 all_goals (
  refine⟨by omega,by omega,λb hb=>?_⟩
  rw[set_set]
  have d:(H'.set b (.arr 2 [[gi c.kind,gi c.n]])) b=.arr 2 [[gi c.kind,gi c.n]]:=by simp[View.set]
  have I:=bx.fresh hb (o:=.arr 2 [[gi c.kind,gi c.n]])
  have y:=cu.fresh hb (o:=.arr 2 [[gi c.kind,gi c.n]])
  have b4:¬ b=r:=by rintro rfl;rw[Q] at hb;simp at hb
  have J:(H'.set b (.arr 2 [[gi c.kind,gi c.n]])) r=.arr 1 P:=by simp[View.set,Ne.symm b4,Q]
  generalize H'.set b (.arr 2 [[gi c.kind,gi c.n]])=H5 at d I y J
  have eX:∀ (e:Int) (p:aE),X=([],(at_:Int),e)->cM p (.bf [.emp 1,gi at_,gi e]) (O2 X):=λe p hX=>by rw[hX];exact zq (x:=([],(at_:Int),e)) (.emp _)
  apply aj.eq<;>intro k3
  .simp(disch:=omega)only[↓wr,seval,wq,t2,t3,t4,t9,t10,t11,t12,d,encI]
   apply aj.eq<;>intro ha
   .simp(disch:=omega)only[↓wr,seval,wq,t2,t3,t4,t9,t10,t11,t12,d]
    rintro p rfl
    rw[aaF ⟨k3,by omega⟩] at a
    rw[<-a]
    exact zq (x:=(rs,(at_:Int),0)) (kK y)
   .rw[aaD (by omega),aaF (.inr (.inl k3))] at a
    simp(disch:=omega)only[↓wr,seval,wq,t2,t3,t4,t9,t10,t11,t12,d]
    refine aj.eq (λh=>by omega) (λ_=>?_)
    simp(disch:=omega)only[↓wr,seval,wq,t2,t3,t4,t9,t10,t11,t12,d]
    refine aj.eq (λ_=>?_) (λh=>absurd k3 h)
    simp(disch:=omega)only[↓wr,seval,wq,t2,t3,t4,t9,t10,t11,t12,d]
    intro p _
    exact eX 3 p a.symm
  simp(disch:=omega)only[↓wr,seval,wq,t2,t3,t4,t9,t10,t11,t12,d]
  apply aj.eq<;>intro k0
  .rw[aaD (by omega),aaF (.inl k0)] at a
   simp(disch:=omega)only[↓wr,seval,wq,t2,t3,t4,t9,t10,t11,t12,d]
   intro p _
   exact eX 3 p a.symm
  simp(disch:=omega)only[↓wr,seval,wq,t2,t3,t4,t9,t10,t11,t12,d]
  refine aj.eq (λh=>absurd h k3) (λ_=>?_)
  simp(disch:=omega)only[↓wr,seval,wq,t2,t3,t4,t9,t10,t11,t12,d]
  apply aj.eq<;>intro k1
  .simp(disch:=omega)only[↓wr,seval,wq,t2,t3,t4,t9,t10,t11,t12,d,encI]
   apply aj.eq<;>intro ha
   .rw[aaD (by omega),aaF (.inr (.inr ⟨k1,by omega⟩))] at a
    simp(disch:=omega)only[↓wr,seval,wq,t2,t3,t4,t9,t10,t11,t12,d]
    intro p _
    exact eX 3 p a.symm
   rw[aaD (by omega),aaD (by omega)] at a
   simp(disch:=omega)only[↓wr,seval,wq,t2,t3,t4,t9,t10,t11,t12,d]
   apply aj.eq<;>intro hn
   .rw[show 2000 - i=0 by omega] at a
    simp(disch:=omega)only[↓wr,seval,wq,t2,t3,t4,t9,t10,t11,t12,d]
    intro p _
    exact eX 14 p a.symm
   obtain⟨k2,ek⟩:∃ k2,2000 - i=k2+1:=⟨2000 - i - 1,by omega⟩
   rw[ek] at a
   simp only[k1,if_true] at a
   simp(disch:=omega)only[↓wr,seval,wq,t2,t3,t4,t9,t10,t11,t12,d]
   refine aj.eq (λ_=>?_) (λh=>absurd k1 h)
   simp(disch:=omega)only[↓wr,seval,wq,t2,t3,t4,t9,t10,t11,t12,d]
   have b5:0<=c.n/\c.n < t.bo.length:=by rcases HB ar with h | h | h <;> omega
   intro q hq
   simp(disch:=omega)only[↓wr,seval,wq,t2,t3,t4,t9,t10,t11,t12,bz]
   refine E5 (xs:=[c.n]) (I.fresh hq (o:=.arr 1 [[gi c.n]])) (by simp) (by unfold aC;simp;omega) (by unfold aC;simp;omega) ?_
   intro S H6 o2 l2
   have u:=(y.fresh hq (o:=.arr 1 [[gi c.n]]))
   simp(disch:=omega)only[↓wr,seval,wq,t2,t3,t4,t9,t10,t11,t12]
   refine aG hk (by omega) ⟨S,ur,st ++ [c.n],rs,at_+1,by omega,by rw[show 2000 - (i+1)=k2 by omega];exact a,.app D.2 b5,kU.own o2 (by simp),u.left l2 (λid h1 K=>E id K h1),λid h1 K=>?_,by omega,by simp;omega,by omega,t2,t3,t4,rfl,t10,rfl,rfl⟩
   exact(l2 id (by rw[(u.live K).1];simp) (λe=>E id e K)).2 h1
  .have b5:c.kind=2/\0<=c.n/\c.n < g.rules.length:=by rcases HB ar with h | h | h <;> omega
   rw[aaD (by omega),aaD (by omega)] at a
   simp(disch:=omega)only[↓wr,seval,wq,t2,t3,t4,t9,t10,t11,t12,d]
   apply aj.eq<;>intro hn
   .rw[show 2000 - i=0 by omega] at a
    simp(disch:=omega)only[↓wr,seval,wq,t2,t3,t4,t9,t10,t11,t12,d]
    intro p _
    exact eX 14 p a.symm
   obtain⟨k2,ek⟩:∃ k2,2000 - i=k2+1:=⟨2000 - i - 1,by omega⟩
   rw[ek] at a
   simp only[aaD k1] at a
   have hR:g.rules[c.n.toNat]?=some (aA g c.n):=by unfold aA;exact getD_some (by omega)
   have a8:=aaI hR
   have cv:=hf.right _ a8
   have b7:=hf.left _ a8
   generalize aA g c.n=R at hR a8 cv b7 a
   simp(disch:=omega)only[↓wr,seval,wq,t2,t3,t4,t9,t10,t11,t12,d]
   refine aj.eq (λh=>absurd h k1) (λ_=>?_)
   simp(disch:=omega)only[↓wr,seval,wq,t2,t3,t4,t9,t10,t11,t12,d,ag,encS,aaE,hR,aaH,bg]
   intro b2 B
   rw[set_set]
   have b8:¬ b2=b:=by rintro rfl;rw[d] at B;simp at B
   have L:(H5.set b2 (.arr 3 [[gi R.left,encI R.right,gi R.prec]])) b2=.arr 3 [[gi R.left,encI R.right,gi R.prec]]:=by simp[View.set]
   have f:(H5.set b2 (.arr 3 [[gi R.left,encI R.right,gi R.prec]])) b=.arr 2 [[gi c.kind,gi c.n]]:=by simp[View.set,Ne.symm b8,d]
   have W:=I.fresh B (o:=.arr 3 [[gi R.left,encI R.right,gi R.prec]])
   have u:=y.fresh B (o:=.arr 3 [[gi R.left,encI R.right,gi R.prec]])
   have b9:¬ b2=r:=by rintro rfl;rw[J] at B;simp at B
   have Y:(H5.set b2 (.arr 3 [[gi R.left,encI R.right,gi R.prec]])) r=.arr 1 P:=by simp[View.set,Ne.symm b9,J]
   generalize H5.set b2 (.arr 3 [[gi R.left,encI R.right,gi R.prec]])=H6 at L f W u Y
   try simp(disch:=omega)only[↓wr,seval,wq,t2,t3,t4,t9,t10,t11,t12,L,A,encI]
   apply aj.dec<;>intro hlen
   .rw[aaF (by omega)] at a
    simp(disch:=omega)only[↓wr,seval,wq,t2,t3,t4,t9,t10,t11,t12,f]
    intro p _
    exact eX 3 p a.symm
   rw[aaD (by omega)] at a
   obtain⟨m2,cA⟩:∃ m2,m2=st.length - R.right.length:=⟨_,rfl⟩
   have cC:(st.length:Int) - R.right.length=m2:=by omega
   rw[<-cA] at a
   have Z:m2<=st.length:=by omega
   have cN:kU H6 (.sl r l m2 1) (st.take m2):=(A ▸ W).take Z
   have M:Ld t (st.take m2):=D.take (by omega)
   have cS:(st.take m2).length=m2:=by simp;omega
   have bd:=M.2 _ (LG M.1)
   have U:P.getD (l+((m2:Int) - 1).toNat) []=[gi (c5 (st.take m2))]:=by
    have:=Yt (off:=l) (es:=P) (st:=st.take m2) (λj hj=>by
     rw[b0 j (by omega),aaA,aaA,abX,aaF (by omega)]) (by omega)
    rwa [cS] at this
   obtain⟨ca,N⟩:=z.go (s:=c5 (st.take m2)) (x:=R.left) bd b7
   have cc:t.gotos[(c5 (st.take m2)).toNat]?=some (t.gotos.getD (c5 (st.take m2)).toNat []):=getD_some (by have:=z.len;omega)
   generalize t.gotos.getD (c5 (st.take m2)).toNat []=gr at cc N
   generalize mR t (c5 (st.take m2)) R.left=to at ca N a
   simp(disch:=omega)only[↓wr,seval,wq,t2,t3,t4,t9,t10,t11,t12,L,f,A,Y,cC,U,aaE,cc,N,aaH,encI,cW,CN Z]
   refine⟨by omega,by omega,?_⟩
   apply aj.eq<;>intro bl
   .rw[aaF bl] at a
    simp(disch:=omega)only[↓wr,seval,wq,t2,t3,t4,t9,t10,t11,t12,f]
    intro p _
    exact eX 3 p a.symm
   rw[aaD bl] at a
   simp(disch:=omega)only[↓wr,seval,wq,t2,t3,t4,t9,t10,t11,t12,f]
   intro q hq
   have an:=cN.fresh hq (o:=.arr 1 [[gi to]])
   have aq:=u.fresh hq (o:=.arr 1 [[gi to]])
   have cV:¬ b=q:=by rintro rfl;rw[f] at hq;simp at hq
   have cf:(H6.set q (.arr 1 [[gi to]])) b=.arr 2 [[gi c.kind,gi c.n]]:=by simp[View.set,cV,f]
   have v:∀ id,owner (V.sl r l m2 1)=some id->owner ur≠some id:=λid h=>E id (by rw[A];exact h)
   have cg:owner (V.sl r l m2 1)≠some b:=by simp[owner];exact λh=>b4 h.symm
   generalize V.sl r l m2 1=u7 at an v cg ⊢
   simp(disch:=omega)only[↓wr,seval,wq,t2,t3,t4,t9,t10,t11,t12,bz]
   refine E5 (xs:=[to]) an (by simp) (by unfold aC;simp;omega) (by unfold aC;simp;omega) ?_
   intro S H7 o2 l2
   have ch:=aq.left l2 (λid h1 K=>v id K h1)
   have c3:H7 b=.arr 2 [[gi c.kind,gi c.n]]:=by rw[(l2 b (by rw[cf];simp) cg).1,cf]
   have cj:∀ id,owner S=some id->owner ur≠some id:=λid h1 K=>(l2 id (by rw[(aq.live K).1];simp) (λe=>v id e K)).2 h1
   simp(disch:=omega)only[↓wr,seval,wq,t2,t3,t4,t9,t10,t11,t12,c3]
   intro q2 ck
   have o3:=o2.fresh ck (o:=.arr 1 [[gi c.n]])
   have cr:=ch.fresh ck (o:=.arr 1 [[gi c.n]])
   simp(disch:=omega)only[↓wr,seval,wq,t2,t3,t4,t9,t10,t11,t12,bz]
   refine wc cr (by simp) (by simp[aI]) (by unfold aC;simp;omega) (by unfold aC;simp;omega) ?_
   intro c4 H8 o4 l4
   simp(disch:=omega)only[↓wr,seval,wq,t2,t3,t4,t9,t10,t11,t12]
   refine aG hk (by omega) ⟨S,c4,st.take m2 ++ [to],rs ++ [c.n],at_,by omega,by rw[show 2000 - (i+1)=k2 by omega];exact a,.app M.2 (by omega),kU.own (o3.left l4 cj) (by simp),by simpa using o4,λid h1 K=>?_,by omega,by simp;omega,by simp;omega,t2,t3,t4,rfl,rfl,t11,rfl⟩
   exact(l4 id (by rw[(o3.live h1).1];simp) (λe=>cj id h1 e)).2 K)
def OJ:Value->Value->Bool
 | .int k a,.int k' b=>decide (k=k') && decide (a=b)
 | .bool a,.bool b=>a == b
 | .string a,.string b=>jT a b
 | .pointer none,.pointer none=>true
 | _,_=>false
theorem VW:∀ (a b:Value),OJ a b=true->a=b:=by
 intro a b h
 unfold OJ at h
 split at h
 .simp only[aaK,aaP] at h
  rw[h.1,h.2]
 .rename_i a b
  rw[show a=b by simpa using h]
 .rename_i a b
  obtain⟨a⟩:=a
  obtain⟨b⟩:=b
  simp only[jT,abB] at h
  rw[show a=b from Array.toList_inj.1 h]
 .rfl
 .simp at h
def CO (q:V->V->Bool):List V->List V->Bool
 | [],[]=>true
 | a :: l,b :: m=>q a b && CO q l m
 | _,_=>false
def Nv (q:V->V->Bool):List (List V)->List (List V)->Bool
 | [],[]=>true
 | a :: l,b :: m=>CO q a b && Nv q l m
 | _,_=>false
def Hr:Nat->V->V->Bool
 | 0,_,_=>false
 | k+1,a,b=>match a,b with
  | .val x,.val y=>OJ x y
  | .aU x,.aU y=>Nv (Hr k) x y
  | .agg x,.agg y=>CO (Hr k) x y
  | .bf x,.bf y=>CO (Hr k) x y
  | _,_=>false
theorem xL {q:V->V->Bool} (c:∀ a b,q a b=true->a=b):∀ (l m:List V),CO q l m=true->l=m
 | [],[],_=>rfl
 | a :: l,b :: m,h=>by
  simp only[CO,aaK] at h
  rw[c a b h.1,xL c l m h.2]
 | [],_ :: _,h=>by simp[CO] at h
 | _ :: _,[],h=>by simp[CO] at h
theorem Sl {q:V->V->Bool} (c:∀ a b,q a b=true->a=b):∀ (l m:List (List V)),Nv q l m=true->l=m
 | [],[],_=>rfl
 | a :: l,b :: m,h=>by
  simp only[Nv,aaK] at h
  rw[xL c a b h.1,Sl c l m h.2]
 | [],_ :: _,h=>by simp[Nv] at h
 | _ :: _,[],h=>by simp[Nv] at h
theorem KA:∀ (k:Nat) (a b:V),Hr k a b=true->a=b
 | 0,_,_,h=>by simp[Hr] at h
 | k+1,a,b,h=>by
  have c:=KA k
  unfold Hr at h
  split at h
  .rw[VW _ _ h]
  .rw[Sl c _ _ h]
  .rw[xL c _ _ h]
  .rw[xL c _ _ h]
  .simp at h
def vY:Nat->V->Bool
 | 0,_=>false
 | k+1,v=>match v with
  | .val _=>true
  | .emp _=>true
  | .eD=>true
  | .aU es=>es.all λe=>e.all (vY k)
  | .agg cs=>cs.all (vY k)
  | .bf cs=>cs.all (vY k)
  | _=>false
theorem zV {q:V->Bool} {l:List V} (h:l.all q=true) {i:Nat} (hi:i < l.length):q (l.getD i .any)=true:=by
 have e:l.getD i .any=l[i]:=by simp[aaA,hi]
 rw[e]
 exact aaZ.1 h _ (aaL _)
theorem Dk:∀ (k:Nat) (v:V),vY k v=true->Tree v
 | 0,_,h=>by simp[vY] at h
 | k+1,v,h=>by
  have a:=Dk k
  unfold vY at h
  split at h
  .exact .val _
  .exact .emp _
  .exact .eD
  .rename_i es
   refine .aU _ λi j hi b=>a _ ?_
   have e:es.getD i []=es[i]:=by simp[aaA,hi]
   have h1:=aaZ.1 h _ (aaL hi)
   rw[e] at b ⊢
   exact zV h1 b
  .exact .agg _ λi hi=>a _ (zV h hi)
  .exact .bf _ λi hi=>a _ (zV h hi)
  .simp at h
noncomputable def zx (H:View):Nat->V->Option V
 | 0,_=>none
 | k+1,v=>match v with
  | .val x=>some (.val x)
  | .emp _=>some (.aU [])
  | .aU es=>match vY 60 (.aU es) with
   | true=>some (.aU es)
   | false=>none
  | .sl id off len _=>match H id with
   | .arr _ es=>match Nat.ble (off+len) es.length with
    | true=>(G0 (zx H k) ((es.drop off).take len)).map .aU
    | false=>none
   | _=>none
  | .agg cs=>(qj (zx H k) cs).map .agg
  | .bf cs=>(qj (zx H k) cs).map .bf
  | _=>none
theorem Gy (h:aE):∀ (k:Nat) (v t:V),zx h.view k v=some t->Fr h v t
 | 0,v,t,a=>by simp[zx] at a
 | k+1,v,t,a=>by
  have b:=Gy h k
  simp only[zx] at a
  split at a
  .simp only[aaC] at a;subst a;exact .tree _ (.val _)
  .simp only[aaC] at a;subst a;exact .emp _
  .split at a
   .rename_i d
    simp only[aaC] at a;subst a;exact .tree _ (Dk _ _ d)
   .simp at a
  .rename_i id off len esz
   split at a
   .rename_i z es hH
    split at a
    .rename_i hle
     have hle:=Nat.le_of_ble_eq_true hle
     simp only[aaO] at a
     obtain⟨es',he,rfl⟩:=a
     obtain⟨g1,g2⟩:=GH _ _ he
     have hlen:es'.length=len:=by rw[g1];simp;omega
     have e:∀ i,i < len->((es.drop off).take len).getD i []=es.getD (off+i) []:=λi hi=>by
      simp[aaA,abX,hi]
     have g3:∀ i,i < len->qj (zx h.view k) (es.getD (off+i) [])=some (es'.getD i []):=λi hi=>by
      rw[<-e i hi];exact g2 i (by rw[<-g1,hlen];exact hi)
     exact .sl id off len esz z es es' hH hle hlen (λi hi=>(jg _ _ (g3 i hi)).1) (λi j hi f=>b _ _ ((jg _ _ (g3 i hi)).2 j (by rw[<-(jg _ _ (g3 i hi)).1];exact f)))
    .simp at a
   .simp at a
  .simp only[aaO] at a
   obtain⟨l,c,rfl⟩:=a
   obtain⟨g1,g2⟩:=jg _ _ c
   exact .agg _ _ g1 (λi hi=>b _ _ (g2 i hi))
  .simp only[aaO] at a
   obtain⟨l,c,rfl⟩:=a
   obtain⟨g1,g2⟩:=jg _ _ c
   exact .bf _ _ g1 (λi hi=>b _ _ (g2 i hi))
  .simp at a
theorem az.seen {P:Program} {f:FuncId} {vs g:List V} {t:V} (p:az P f g t) (q:∀ i,i < vs.length->Tree (vs.getD i .any)) (r:g.length=vs.length) (k:∀ i,i < vs.length->Fr [] (vs.getD i .any) (g.getD i .any)):az P f vs t:=by
 intro Z μ w xs a n
 have l:iR Z (λ_=>none) w.heap (cat [] λ_=>.dead):=by
  rw[F8]
  exact⟨λ_=>trivial,λi j b o s B C _ h=>by simp at h,λid b o s h=>by simp at h,n,λid b o s h=>by simp at h⟩
 have c:∀ b,¬ kd (λ_=>none) b:=λb ⟨_,_,_,h⟩=>by simp at h
 have m:gL (λb=>Z b∨kd (λ_=>none) b) μ w.heap g xs:=⟨by rw[r,a.1],λi hi=>Fh l (k i (by omega)) (zt (a.2 i (by omega)) (q i (by omega)))⟩
 refine(p _ μ w xs m (λb d=>d.elim (n b) (λh=>absurd h (c b)))).mono ?_
 rintro e w' ⟨x,u,rfl,v,y,h1,z,A⟩
 exact⟨x,u,rfl,v,y,λb d=>h1 b (.inl d),λb d=>(z b d).elim (λh=>h.elim .inl (λh=>absurd h (c b))) .inr,A⟩
abbrev Gg:=FuncId × List V × V × Bool
def Gg.Ok (P:Program) (x:Gg):Prop:=ed P x.1=true/\if x.2.2.2=true then az P x.1 x.2.1 x.2.2.1 else (cK P x.1 x.2.1 x.2.2.1∨(az P x.1 x.2.1 x.2.2.1/\Bq x.2.2.1))
noncomputable def Wh (g:FuncId) (vs:List V) (H:View) (x:Gg):Bool:=Nat.beq x.1 g && (match x.2.2.2 with
 | true=>vs.all (vY 60) && (match qj (zx (λ_=>.dead) 60) vs with
  | some ts=>CO (Hr 60) ts x.2.1
  | none=>false)
 | false=>match qj (zx H 60) vs with
  | some ts=>CO (Hr 60) ts x.2.1
  | none=>false)
noncomputable def Pl (l:List Gg):A8:=λg vs H=>(l.find? (Wh g vs H)).map λx=>x.2.2.1
theorem Kv {P:Program} {l:List Gg} (o:∀ x∈l,x.Ok P):vw P (Pl l):=by
 intro g vs H t h
 unfold Pl at h
 simp only[aaO] at h
 obtain⟨⟨f,q,r,b⟩,n,rfl⟩:=h
 obtain⟨h1,c⟩:=o _ (List.mem_of_find?_eq_some n)
 have a:=List.find?_some n
 simp only[Wh,aaK] at a
 obtain⟨k,a⟩:=a
 have k:=acz k
 simp only at k h1 c a
 subst k
 refine⟨h1,?_⟩
 rintro h rfl
 cases b with
 | true =>
  simp only[aaK] at a
  obtain⟨m,d⟩:=a
  split at d
  .rename_i us e
   obtain⟨g1,g2⟩:=jg _ _ e
   have:=xL (KA 60) _ _ d
   subst this
   simp only[if_true] at c
   exact bU.gU (c.seen (λi hi=>Dk _ _ (zV m hi)) g1 λi hi=>Gy [] 60 _ _ (g2 i hi)) h
  .simp at d
 | false =>
  simp only at a
  split at a
  .rename_i us e
   obtain⟨g1,g2⟩:=jg _ _ e
   have:=xL (KA 60) _ _ a
   subst this
   have j:=λi hi=>Gy h 60 _ _ (g2 i hi)
   simp only[aba,if_false] at c
   rcases c with c | ⟨c,p⟩
   .exact bU.x5 c g1 j
   .exact bU.borrow c p g1 j
  .simp at a
def vM (x:Int):Bool:=decide (-9223372036854775808<=x) && decide (x<=9223372036854775807)
theorem rE {x:Int} (h:vM x=true):bM x:=by
 unfold vM at h
 simp only[aaK,aaP] at h
 exact h
def okB (g:af):Bool:=decide (g.ai.length<=900) && decide (g.al.length<=100) && decide (g.rules.length<=900) && vM g.start && g.ai.all (λt=>vM t.level && vM t.assoc) && g.rules.all λr=>vM r.left && vM r.prec && decide (r.right.length<=900) && r.right.all vM
theorem YM {g:af} (h:okB g=true):g.Ok/\g.Small:=by
 unfold okB at h
 simp only[aaK,aaP,aaZ] at h
 obtain⟨⟨⟨⟨⟨h1,f⟩,i⟩,c⟩,a⟩,d⟩:=h
 refine⟨⟨by unfold aK;omega,by unfold aK;omega,by unfold aK;omega,rE c,λt b=>⟨rE (a t b).1,rE (a t b).2⟩,λr hr=>?_⟩,⟨by omega⟩⟩
 have:=d r hr
 exact⟨rE this.1.1.1,rE this.1.1.2,by unfold aK;have:=this.1.2;omega,λx e=>rE (this.2 x e)⟩
theorem ph:jV.Ok/\jV.Small:=YM (by kernel_rfl)
structure fp where
 sym:Int
 to:Int
 deriving DecidableEq
def kc (x:fp):List V:=[gi x.sym,gi x.to]
theorem Xk {H:View} {u:V} {sz b i j:Nat} {es:List (List V)} (h:aT H u sz es) (a:owner u≠some b):iY (.ptr b i j) u:=by
 rcases h with ⟨_,k,rfl⟩ | ⟨z,rfl,_⟩
 .simp[iY]
 .simp[iY,owner] at a ⊢
  exact λe=>a e.symm
abbrev O4:=List (V × List Cell)
abbrev WB:=List (V × List Int)
def ez {α:Type} (A:List (V × α)):List (List V):=A.map λx=>[x.1]
def Qt (A:O4):List dH:=A.map λx=>(x.1,2,x.2.map dp)
def PK (A:WB):List dH:=A.map λx=>(x.1,1,bH x.2)
theorem QW {h:aE} {u:V} {A:O4} (f:aT h.view u 1 (ez A)) (g:∀ x∈A,aT h.view x.1 2 (x.2.map dp)):cM h u (.aU ((A.map (·.2)).map λr=>[BG r])):=by
 have c:∀ i (hi:i < A.length),(ez A).getD i []=[(A[i]).1]/\(((A.map (·.2)).map λr=>[BG r]).getD i [])=[BG (A[i]).2]:=λi hi=>by
  simp[ez,aaA,hi]
 refine cM.own f (by simp[ez]) (λi hi=>?_) (λi j hi b=>?_)
 .have a:i < A.length:=by simpa [ez] using hi
  rw[(c i a).1,(c i a).2];rfl
 .have a:i < A.length:=by simpa [ez] using hi
  rw[(c i a).2] at b ⊢
  rw[(c i a).1]
  have:j=0:=by simp at b;omega
  subst this
  simp only[abE]
  have d:=g _ (aaL a)
  generalize (A[i]'a).2=l at d
  refine cM.own d rfl (λi _=>rfl) (λi j hi b=>?_)
  simp only[aaJ] at hi
  have e:(l.map dp).getD i []=dp l[i]:=by simp[aaA,hi]
  rw[e] at b ⊢
  match j,b with
  | 0,_=>exact .val _
  | 1,_=>exact .val _
theorem Oc {h:aE} {u v s t:V} (h1:cM h u s) (a:cM h v t):cM h (.agg [u,v]) (.agg [s,t]):=.agg _ _ rfl λj b=>by
 match j,b with
 | 0,_=>exact h1
 | 1,_=>exact a
structure ay where
 au:Int
 dot:Int
 deriving DecidableEq
def bu (x:ay):List V:=[gi x.au,gi x.dot]
def aV (l:List ay):List (List V):=l.map bu
def c6 (a b:ay):Bool:=decide (a.au < b.au) || (decide (a.au=b.au) && decide (a.dot < b.dot))
def eW:List ay->ay->List ay
 | [],x=>[x]
 | y :: l,x=>if c6 y x=true then y :: eW l x else if y=x then y :: l else x :: y :: l
theorem Xv (a b:ay):∀ v∈[V.agg (bu a),.agg (bu b)],Tree v:=by
 intro v c;simp at c
 rcases c with rfl | rfl <;> exact bL _ λv c=>by simp[bu] at c;rcases c with rfl | rfl <;> exact .val _
def sL:SF:=⟨ae [ab [cF 2 0,cF 3 1,bB 4 false],.region false [⟨none,[ao 5 0 2,ak 6 5,ao 7 0 3,ak 8 7,aQ 9 .lss 6 8,aa 10 9]⟩,⟨(some (10,false)),[ao 11 0 2,ak 12 11,ao 13 0 3,ak 14 13,aQ 15 .eql 12 14,aa 16 15]⟩,⟨(some (16,true)),[ao 17 1 2,ak 18 17,ao 19 1 3,ak 20 19,aQ 21 .lss 18 20]⟩,⟨(some (10,false)),[eO 22 16 21]⟩,⟨none,[cy 23 10 22,aa 4 23]⟩],.ret],
 [.tmp 4],24⟩
theorem yD:aP Tryz.prog 198 [2,3]=some sL:=by kernel_rfl
def qY:SC :=
 ae [ae [.region false [⟨none,[aa 7 5,aa 8 0,aN 9 8,aQ 10 .lss 7 9,aa 11 10]⟩,⟨(some (11,true)),[aa 12 0,aa 13 5,aO 14 2 12 13,aZ 15 2 14,aZ 16 2 3,bk 17 198 [15,16]]⟩,⟨none,[eO 18 11 17]⟩],bX 18 (.exit 0)],.block 1 (ab [aa 19 5,aF 20 .add 19 1,aa 5 20])]
def tG:SF:=⟨ae [ab [cF 3 1,bT 4 1],ab [aR 5 0],bZ 0 qY,ae [.region false [⟨none,[aa 21 5,aa 22 0,aN 23 22,aQ 24 .lss 21 23,aa 25 24]⟩,⟨(some (25,true)),[aa 26 0,aa 27 5,aO 28 2 26 27,aZ 29 2 28,aZ 30 2 3,((some 31),.op (.old (.binOp .eql 120 (.tmp 29) (.tmp 30) 120) 4))]⟩,⟨none,[eO 32 25 31]⟩],bb 32 (ae [ab [aa 33 0,aa 4 33],.ret])],ab [bT 34 2,aa 35 0,aa 36 5,((some 37),.op (.slice 2 (.tmp 35) (some (.tmp 36)) none)),fD 38 2 16 34 37,aa 6 38],ab [aa 39 0,aa 40 5,((some 41),.op (.slice 2 (.tmp 39) none (some (.tmp 40)))),aZ 42 2 3,((some 43),.op (.bJ 1 2 [(.val (.int .i64 0)),(.val (.int .i64 0))] [(0,(.tmp 42))])),fD 44 2 16 41 43,aa 45 6,fD 46 2 16 44 45,aa 4 46],.ret],
 [.tmp 4],47⟩
theorem zE:aP Tryz.prog 133 [3]=some tG:=by kernel_rfl
theorem S8 (a b:ay):az Tryz.prog 198 [.agg (bu a),.agg (bu b)] (gb (c6 a b)):=by
 refine az.val (Xv a b) λH=>?_
 refine aw.of mixed yD ?_
 unfold c6
 simp(disch:=omega)only[↓wr,seval,wq,sL,bu]
 apply aj.dec<;>intro h1
 .simp(disch:=omega)only[↓wr,seval,wq]
  rw[ack h1];rfl
 simp(disch:=omega)only[↓wr,seval,wq,bu]
 apply aj.eq<;>intro c
 .simp(disch:=omega)only[↓wr,seval,wq,bu]
  rw[decide_eq_false h1,ack c];rfl
 .simp(disch:=omega)only[↓wr,seval,wq]
  rw[decide_eq_false h1,decide_eq_false c];rfl
def eL:List ay->ay->Nat
 | [],_=>0
 | y :: l,x=>if c6 y x=true then eL l x+1 else 0
theorem D5:∀ (l:List ay) (x:ay),eL l x<=l.length
 | [],_=>aaM _
 | y :: l,x=>by
  rw[eL];split
  .have:=D5 l x;simp;omega
  .simp
theorem FG:∀ (l:List ay) (x:ay) (i:Nat) (y:ay),l[i]?=some y->i < eL l x->c6 y x=true
 | [],_,_,_,h,_=>by simp at h
 | z :: l,x,0,y,h,hi=>by
  rw[eL] at hi;split at hi
  .simp at h;subst h;assumption
  .omega
 | z :: l,x,i+1,y,h,hi=>by
  rw[eL] at hi;split at hi
  .exact FG l x i y (by simpa using h) (by omega)
  .omega
theorem E0:∀ (l:List ay) (x:ay) (y:ay),l[eL l x]?=some y->c6 y x=false
 | [],_,_,h=>by simp at h
 | z :: l,x,y,h=>by
  rw[eL] at h;split at h
  .exact E0 l x y (by simpa using h)
  .rename_i e;simp at h;subst h;simpa using e
theorem zy:∀ (l:List ay) (x:ay),eW l x=if l[eL l x]?=some x then l else l.take (eL l x) ++ [x] ++ l.drop (eL l x)
 | [],x=>by simp[eW,eL]
 | y :: l,x=>by
  rw[eW,eL]
  split
  .have:=zy l x
   simp only[abr,List.take_succ_cons,List.drop_succ_cons,abk]
   rw[this];split <;> simp
  .simp only[aa5,aaC,List.take_zero,abP,abG,abk]
theorem oZ (x y:ay):iA Tryz.prog 9998 #[.int .i64 x.au,.int .i64 x.dot] #[.int .i64 y.au,.int .i64 y.dot]
  [{ name:= "Rule",type:=3,offset:=0,embedded:=false,tag:= "",pkgPath:= "",byteOffset:=0 },{ name:= "Dot",type:=3,offset:=1,embedded:=false,tag:= "",pkgPath:= "",byteOffset:=8 }] ((x.au == y.au) && ((x.dot == y.dot) && true)) :=
 .int _ _ _ .i64 _ _ (by decide) Tryz.underlying3 rfl rfl (.int _ _ _ .i64 _ _ (by decide) Tryz.underlying3 rfl rfl .nil)
theorem xP (x y:ay):((x.au == y.au) && ((x.dot == y.dot) && true))=decide (x=y):=by
 cases x;cases y;rw[abD];simp
theorem qy {sz id off k m:Nat} (hm:m<=k):dA sz (.sl id off k sz) (some (gi m)) none=some (.sl id (off+m) (k - m) sz,.none,[]):=by
 simp[dA,bound,asNat,hm]
theorem pG {sz id off k m:Nat} (hm:m<=k):dA sz (.sl id off k sz) none (some (gi m))=some (.sl id off m sz,.none,[]):=by
 simp[dA,bound,asNat,hm]
theorem Ra (l:List ay):((aV l).all λe=>e.length == 2 && e.all aI)=true:=by
 simp[aV,acg,bu,aI]
theorem Sk {H:View} {u:V} {sz:Nat} {es:List (List V)} (h:aT H u sz es):∃ rd,bR H u=some (es,rd):=by
 rcases h with ⟨rfl,k,rfl⟩ | ⟨n,rfl,a⟩
 .exact⟨_,xk _ k⟩
 .cases es with
  | nil=>exact⟨[],by simp[bR]⟩
  | cons e es =>
   exact⟨_,by rw[show (e :: es).length=es.length+1 from rfl,p0 _ n 0 es.length sz sz _ a (by simp),abP,aaS (by simp)]⟩
theorem rZ {sz bytes:Nat} {u:V} {es:List (List V)} {H:View} {K:V->View->Prop} {w:cX (H,K)} (a:aT H u sz es) (h:K u H):lK sz bytes u [] H K w:=by
 unfold lK
 rcases a with ⟨_,k,rfl⟩ | ⟨n,rfl,_⟩ <;> simpa using h
theorem Left.behind {H H':View} {q:Nat} {o:dG} {u r:V} (d:H q=.dead) (h:Left (H.set q o) H' u r):Left H H' u r:=λa c b=>by
 have e:¬ a=q:=by rintro rfl;exact c d
 have:=h a (by simp[View.set,e];exact c) b
 simpa [View.set,e] using this
theorem DJ (u:V) (l:List ay) (hl:l.length<=100000) (x:ay) (H:View) (v:aT H u 2 (aV l)):aw Tryz.prog 133 [u,.agg (bu x)] H λr H'=>aT H' r 2 (aV (eW l x))/\Left H H' u r:=by
 refine aw.of mixed zE ?_
 have hlen:cT u=some l.length:=by rw[v.len];simp[aV]
 have hle:=D5 l x
 simp(disch:=omega)only[↓wr,seval,wq,tG,bu]
 refine ba.up (eL l x) (λi T H'=>H'=H/\i<=eL l x/\T 0=u/\T 3=.aL (bu x) 0/\T 5=gi i) ⟨rfl,by omega,rfl,rfl,rfl⟩ ?_
 rintro i k T H' hk ⟨Z,hi,t0,t3,t5⟩
 subst Z
 simp(disch:=omega)only[↓wr,seval,wq,qY,t0,t3,t5,hlen]
 have stop:i=eL l x->True:=λ_=>trivial
 apply aj.dec<;>intro K
 .have w:l[i]?=some (l[i]'(by omega)):=aaB (by omega)
  generalize l[i]'(by omega)=y at w
  obtain⟨id,hu,b⟩:=v.sl (by simp[aV];omega)
  have n:(aV l).length=l.length:=by simp[aV]
  have L:(aV l).getD i []=bu y:=by simp[aV,aaA,w]
  have A:=S8 y x
  simp only[bu] at A L
  simp(disch:=omega)only[↓wr,seval,wq,t0,t3,t5,hu,b,L,bu]
  refine⟨by simp[aV];omega,by simp[aV];omega,?_⟩
  refine ax.pure A ?_
  simp(disch:=omega)only[↓wr,seval,wq,t0,t3,t5]
  apply aj.split<;>intro e
  .have B:i < eL l x:=by
    rcases aa2 i (eL l x) with h | h
    .exact h
    .have:=E0 l x y (by rw[show eL l x=i by omega];exact w)
     rw[this] at e;exact absurd e (by simp)
   simp(disch:=omega)only[↓wr,seval,wq,t0,t3,t5]
   exact aG hk B ⟨rfl,B,t0,t3,rfl⟩
  have s:i=eL l x:=by
   rcases aa2 i (eL l x) with h | h
   .rw[FG l x i y w h] at e;exact absurd e (by simp)
   .omega
  simp(disch:=omega)only[↓wr,seval,wq,t0,t3,t5,hlen]
  refine aj.dec (λ_=>?_) (λh=>absurd K h)
  simp(disch:=omega)only[↓wr,seval,wq,t0,t3,t5,hu,b,L,bu]
  refine⟨by simp[aV];omega,by simp[aV];omega,?_⟩
  refine jd (xs:=#[.int .i64 y.au,.int .i64 y.dot]) (ys:=#[.int .i64 x.au,.int .i64 x.dot]) Tryz.underlying120 (by kernel_rfl) (by kernel_rfl) ?_ ?_ (oZ y x) (.inl ⟨rfl,rfl⟩) ?_
  .rfl
  .rfl
  rw[xP]
  simp(disch:=omega)only[↓wr,seval,wq,t0,t3,t5]
  apply aj.dec<;>intro M
  .subst M
   simp(disch:=omega)only[↓wr,seval,wq,t0]
   rw[zy,aaF (by rw[<-s];exact w)]
   exact⟨v,λid b v=>⟨rfl,v⟩⟩
  rw[n] at hu
  have N:bR H' (.sl id i (l.length - i) 2)=some (aV (l.drop i),[id]):=by
   obtain⟨q,d⟩:∃ q,l.length - i=q+1:=⟨l.length - i - 1,by omega⟩
   rw[d,p0 H' id i q 2 2 (aV l) b (by rw[n];omega)]
   rw[show (aV l).drop i=aV (l.drop i) from List.map_drop.symm,aaS (by simp[aV];omega)]
  simp(disch:=omega)only[↓wr,seval,wq,t0,t3,t5,hu,qy (sz:=2) (id:=id) (off:=0) (k:=l.length) (m:=i) (by omega),N]
  refine gF aT.nil (Ra _) (by unfold aC aV;simp;omega) (by unfold aC aV;simp;omega) ?_
  intro rest H1 O lr
  simp(disch:=omega)only[↓wr,seval,wq,t0,t3,t5,hu,pG (sz:=2) (id:=id) (off:=0) (k:=l.length) (m:=i) (by omega),bu]
  intro q d
  have C:owner rest≠some id:=(lr id (by rw[b];simp) (by simp[owner])).2
  have f:H1 id=.arr 2 (aV l):=by rw[(lr id (by rw[b];simp) (by simp[owner])).1,b]
  have D:¬ id=q:=by rintro rfl;rw[f] at d;simp at d
  simp(disch:=omega)only[↓wr,seval,wq,bz]
  rw[rB _ _ _ _ _ _ _ _ _ _ (by rfl)]
  simp(disch:=omega)only[↓wr,seval,wq,D,f,n]
  refine⟨⟨by omega,by unfold aC;omega,by unfold aC;omega⟩,λj c=>?_⟩
  try rw[abP]
  have E:¬ j=q:=by rintro rfl;simp at c
  rw[aaD E] at c
  have F:¬ j=id:=by rintro rfl;rw[f] at c;simp at c
  have g:=((O.fresh (o:=.arr 2 [[gi x.au,gi x.dot]]) d).other (o:=.dead) C).fresh (m:=j) (o:=.arr 2 (List.take i (aV l) ++ [[gi x.au,gi x.dot]])) (by simp[View.set,E,F,c])
  have G:aT (((H1.set q (.arr 2 [[gi x.au,gi x.dot]])).set id .dead).set j (.arr 2 (List.take i (aV l) ++ [[gi x.au,gi x.dot]]))) (.sl j 0 (i+1) 2) 2 (List.take i (aV l) ++ [[gi x.au,gi x.dot]]):=.inr ⟨j,by simp[n];omega,by simp[View.set]⟩
  have I:∀ a,H' a≠.dead->a≠id->(((H1.set q (.arr 2 [[gi x.au,gi x.dot]])).set id .dead).set j (.arr 2 (List.take i (aV l) ++ [[gi x.au,gi x.dot]]))) a=H' a/\a≠j:=λa z P=>by
   have h1:=(lr a z (by simp[owner])).1
   have aq:¬ a=q:=by rintro rfl;rw[d] at h1;exact z h1.symm
   have W:¬ a=j:=by rintro rfl;rw[c] at h1;exact z h1.symm
   exact⟨by simp[View.set,aq,W,P,h1],W⟩
  generalize ((H1.set q (.arr 2 [[gi x.au,gi x.dot]])).set id .dead).set j (.arr 2 (List.take i (aV l) ++ [[gi x.au,gi x.dot]]))=H3 at g G I ⊢
  rw[abG] at g
  obtain⟨rd,he⟩:=Sk g
  simp(disch:=omega)only[↓wr,seval,wq,he]
  refine gF G (Ra _) (by unfold aC aV;simp;omega) (by unfold aC aV;simp;omega) ?_
  intro r X t J
  simp(disch:=omega)only[↓wr,seval,wq]
  refine⟨?_,λa z Q=>?_⟩
  .rw[zy,aaD (by rw[<-s,w];simpa using M),<-s]
   simpa [aV,bu,List.map_take,List.map_drop] using t
  .obtain⟨Y,k2⟩:=I a z (by rintro rfl;exact Q (by rw[hu];rfl))
   have:=J a (by rw[Y];exact z) (by simp[owner];exact λh=>k2 h.symm)
   exact⟨by rw[this.1,Y],this.2⟩
 .simp(disch:=omega)only[↓wr,seval,wq,t0,t3,t5,hlen]
  refine aj.dec (λh=>absurd h K) (λ_=>?_)
  have R:i=l.length:=by omega
  subst R
  have p:aV (eW l x)=aV l ++ [[gi x.au,gi x.dot]]:=by
   rw[zy,show eL l x=l.length by omega,aa6 (aaM _),aaD (by simp),List.take_length,List.drop_length]
   simp[aV,bu]
  rcases v with ⟨e,k0,hu⟩ | ⟨id,hu,b⟩
  .have S:l=[]:=by simpa [aV] using e
   subst S
   simp(disch:=omega)only[↓wr,seval,wq,t0,t3,t5,hu,show ∀ k,dA 2 (.emp k) (some (gi 0)) none=some (.emp k,.none,[]) from λk=>rfl,show ∀ k,dA 2 (.emp k) none (some (gi 0))=some (.emp k,.none,[]) from λk=>rfl]
   refine rZ aT.nil ?_
   simp(disch:=omega)only[↓wr,seval,wq,t0,t3,t5,hu,show ∀ k,dA 2 (.emp k) none (some (gi 0))=some (.emp k,.none,[]) from λk=>rfl,bu]
   intro q d
   simp(disch:=omega)only[↓wr,seval,wq,bz]
   refine gF (sz:=2) (u:=.emp k0) aT.nil (by simp[aI]) (by unfold aC;simp) (by unfold aC;simp) ?_
   intro r X t J
   simp(disch:=omega)only[↓wr,seval,wq]
   refine rZ t ?_
   simp(disch:=omega)only[↓wr,seval,wq]
   exact⟨by rw[p];exact t,hu ▸ Left.behind d J⟩
  .rw[show (aV l).length=l.length by simp[aV]] at hu
   simp(disch:=omega)only[↓wr,seval,wq,t0,t3,t5,hu,qy (sz:=2) (id:=id) (off:=0) (k:=l.length) (m:=l.length) (by omega),pG (sz:=2) (id:=id) (off:=0) (k:=l.length) (m:=l.length) (by omega)]
   rw[Nat.sub_self,show bR H' (.sl id l.length 0 2)=some ([],[]) from rfl]
   simp(disch:=omega)only[↓wr,seval,wq]
   refine rZ aT.nil ?_
   simp(disch:=omega)only[↓wr,seval,wq,t0,t3,t5,hu,pG (sz:=2) (id:=id) (off:=0) (k:=l.length) (m:=l.length) (by omega),bu]
   intro q d
   simp(disch:=omega)only[↓wr,seval,wq,bz]
   have U:aT H' (.sl id 0 l.length 2) 2 (aV l):=.inr ⟨id,by simp[aV],b⟩
   refine gF (sz:=2) (U.fresh d) (by simp[aI]) (by unfold aC aV;simp;omega) (by unfold aC aV;simp;omega) ?_
   intro r X t J
   simp(disch:=omega)only[↓wr,seval,wq]
   refine rZ t ?_
   simp(disch:=omega)only[↓wr,seval,wq]
   exact⟨by rw[p];exact t,hu ▸ Left.behind d J⟩
def aM (g:af) (r:Int):List Int:=if r = -1 then [-1 - g.start] else (aA g r).right
def aW (g:af) (x:ay):Int × Bool:=if x.dot=(aM g x.au).length then (0,false) else ((aM g x.au).getD x.dot.toNat 0,true)
def qL:SF:=⟨ae [ab [cF 2 0,bT 4 1],ae [ab [aa 5 1,aF 6 .eql 5 (-1)],bb 6 (ae [ab [ao 7 3 2,ak 8 7,((some 9),.op (.arith .sub (.val (.val (.int .i64 (-1)))) (.tmp 8))),((some 10),.op (.bJ 1 1 [(.val (.int .i64 0))] [(0,(.tmp 9))])),aa 4 10],.ret])],ab [ao 11 2 2,ak 12 11,aa 13 1,aO 14 3 12 13,ao 15 1 14,ak 16 15,aa 4 16],.ret],
 [.tmp 4],17⟩
theorem xA:aP Tryz.prog 199 [2]=some qL:=by kernel_rfl
def td:SF:=⟨ae [ab [cF 2 0,cF 3 1,aR 4 0,bB 5 false],ab [aZ 7 4 2,ao 8 0 3,ak 9 8,bk 10 199 [7,9],aa 6 10],ae [ab [ao 11 1 3,ak 12 11,aa 13 6,aN 14 13,aQ 15 .eql 12 14],bb 15 (ae [ab [aR 4 0,bB 5 false],.ret])],ab [aa 16 6,ao 17 1 3,ak 18 17,aO 19 1 16 18,ak 20 19,aa 4 20,bB 5 true],.ret],
 [.tmp 4,.tmp 5],21⟩
theorem x7:aP Tryz.prog 134 [2,3]=some td:=by kernel_rfl
theorem EP (g:af) (d : -100<=g.start/\g.start<=100) (r:Int) (hr : -1<=r/\r < (g.rules.length:Int)):az Tryz.prog 199 [.agg (ag g),gi r] (encI (aM g r)):=by
 refine az.of (by
  intro v a;simp at a
  rcases a with rfl | rfl
  .exact bL _ (cd g)
  .exact .val _) ?_
 refine aw.of mixed xA ?_
 unfold aM
 simp(disch:=omega)only[↓wr,seval,wq,qL,ag,encS]
 apply aj.eq<;>intro h1
 .simp(disch:=omega)only[↓wr,seval,wq,ag,encS]
  intro n
  rw[aaF h1]
  rintro c a
  refine cM.fr (kK (l:=[-1 - g.start]) (.inr ⟨n,rfl,?_⟩))
  rw[a];simp[View.set]
 .have b:g.rules[r.toNat]?=some (aA g r):=by unfold aA;exact getD_some (by omega)
  rw[aaD h1]
  generalize aA g r=R at b
  simp(disch:=omega)only[↓wr,seval,wq,ag,encS,aaE,b,aaH,bg]
  intro c _
  exact .tree _ (cx R.right)
theorem QY (g:af) (c : -100<=g.start/\g.start<=100) (x:ay) (d : -1<=x.au/\x.au < (g.rules.length:Int)) (e:0<=x.dot/\x.dot<=(aM g x.au).length) (f:(aM g x.au).length<=1000) :
  az Tryz.prog 134 [.agg (ag g),.agg (bu x)] (.bf [gi (aW g x).1,gb (aW g x).2]):=by
 have h1:=EP g c x.au d
 refine az.tree (by
  intro v a;simp at a
  rcases a with rfl | rfl
  .exact bL _ (cd g)
  .exact bL _ λv a=>by simp[bu] at a;rcases a with rfl | rfl <;> exact .val _) (.bf _ λi hi=>by
   match i,hi with
   | 0,_=>exact .val _
   | 1,_=>exact .val _) λH=>?_
 refine aw.of mixed x7 ?_
 simp only[ag,encS,encI] at h1
 unfold aW
 simp(disch:=omega)only[↓wr,seval,wq,td,ag,encS,bu]
 refine ax.pure h1 ?_
 generalize aM g x.au=R at e f ⊢
 simp(disch:=omega)only[↓wr,seval,wq,bu]
 apply aj.eq<;>intro b
 .simp(disch:=omega)only[↓wr,seval,wq]
  rw[aaF b]
 .have h:R[x.dot.toNat]?=some (R.getD x.dot.toNat 0):=getD_some (by omega)
  simp(disch:=omega)only[↓wr,seval,wq,bu,aaE,h,aaH]
  rw[aaD b]
theorem fZ {a b:ay} : c6 a b=true↔a.au < b.au∨a.au=b.au/\a.dot < b.dot:=by
 simp[c6]
theorem qg {a b c:ay} (h:c6 a b=true) (k:c6 b c=true):c6 a c=true:=by
 rw[fZ] at h k ⊢;omega
theorem mS {a:ay} : c6 a a=false:=by
 cases h:c6 a a with
 | false=>rfl
 | true=>rw[fZ] at h;omega
theorem Mc {a b:ay} (h:c6 a b=true):c6 b a=false:=by
 cases k:c6 b a with
 | false=>rfl
 | true=>have:=qg h k;rw[mS] at this;exact absurd this (by simp)
theorem zr {a b:ay} (h:c6 a b=false) (c:¬ a=b):c6 b a=true:=by
 rw[fZ]
 have h1:¬ c6 a b=true:=by simp[h]
 rw[fZ] at h1
 obtain⟨d,ad⟩:=a
 obtain⟨e,f⟩:=b
 simp only[ay.mk.injEq] at c
 simp only at h1 ⊢
 omega
abbrev cz (l:List ay):Prop:=l.Pairwise λa b=>c6 a b=true
theorem jG:∀ {l:List ay} {x y:ay},y∈eW l x↔y=x∨y∈l
 | [],x,y=>by simp[eW]
 | z :: l,x,y=>by
  rw[eW]
  split
  .simp only[aaT,jG (l:=l)]
   constructor
   .rintro (h | h | h) <;> simp[h]
   .rintro (h | h | h) <;> simp[h]
  .split
   .rename_i h;subst h;simp
   .simp
theorem pN:∀ {l:List ay} {x:ay},cz l->cz (eW l x)
 | [],x,_=>by simp[eW,cz]
 | z :: l,x,h=>by
  rw[cz,ab3] at h
  rw[eW]
  split
  .rename_i c
   rw[cz,ab3]
   refine⟨λy a=>?_,pN h.2⟩
   rcases jG.1 a with rfl | a
   .exact c
   .exact h.1 y a
  .rename_i c
   split
   .exact ab3.2 h
   .rename_i d
    have b:=zr (by simpa using c) d
    rw[cz,ab3]
    refine⟨λy a=>?_,ab3.2 h⟩
    rcases aaT.1 a with rfl | a
    .exact b
    .exact qg b (h.1 y a)
theorem Ic:∀ (l:List ay) (x:ay),(eW l x).length=l.length∨(eW l x).length=l.length+1
 | [],x=>.inr rfl
 | z :: l,x=>by
  rw[eW]
  split
  .rcases Ic l x with h | h <;> simp[h]
  .split <;> simp
theorem Fb:∀ {l:List ay} {x:ay},cz l->x∈l->eW l x=l
 | [],x,_,h=>by simp at h
 | z :: l,x,a,h=>by
  rw[cz,ab3] at a
  rw[eW]
  rcases aaT.1 h with rfl | h
  .rw[aaD (by simp[mS]),aaF rfl]
  .rw[aaF (a.1 x h),Fb a.2 h]
theorem Ev:∀ {l:List ay} {x:ay},x ∉ l->(eW l x).length=l.length+1
 | [],x,_=>rfl
 | z :: l,x,h=>by
  simp only[aaT,not_or] at h
  rw[eW]
  split
  .simp[Ev h.2]
  .rw[aaD (λe=>h.1 e.symm)];rfl
theorem IF:∀ {l:List ay} {x:ay},(∀ y∈l,c6 y x=true)->eW l x=l ++ [x]
 | [],x,_=>rfl
 | z :: l,x,h=>by
  rw[eW,aaF (h z (by simp)),IF λy a=>h y (by simp[a])];rfl
theorem BA:∀ {a b:List ay},cz a->cz b->(∀ x,x∈a↔x∈b)->a=b
 | [],[],_,_,_=>rfl
 | [],y :: b,_,_,h=>by have:=(h y).2 (by simp);simp at this
 | x :: a,[],_,_,h=>by have:=(h x).1 (by simp);simp at this
 | x :: a,y :: b,d,e,h=>by
  rw[cz,ab3] at d e
  have f:x=y:=by
   have h1:=(h x).1 (by simp)
   have c:=(h y).2 (by simp)
   rcases aaT.1 h1 with h1 | h1
   .exact h1
   .rcases aaT.1 c with c | c
    .exact c.symm
    .have:=qg (d.1 y c) (e.1 x h1)
     rw[mS] at this;exact absurd this (by simp)
  subst f
  congr 1
  refine BA d.2 e.2 λz=>?_
  have g:=h z
  simp only[aaT] at g
  constructor
  .intro hm
   rcases g.1 (.inr hm) with rfl | h
   .have:=d.1 z hm;rw[mS] at this;exact absurd this (by simp)
   .exact h
  .intro hm
   rcases g.2 (.inr hm) with rfl | h
   .have:=e.1 z hm;rw[mS] at this;exact absurd this (by simp)
   .exact h
theorem JR:∀ (l:List Int) (a n:Int),l.Pairwise (· < ·)->(∀ x∈l,a<=x/\x < a+n)->0<=n->(l.length:Int)<=n
 | [],a,n,_,_,b=>by simpa using b
 | x :: l,a,n,hp,hm,b=>by
  rw[ab3] at hp
  have h1:=hm x (by simp)
  have:=JR l (x+1) (a+n - (x+1)) hp.2 (λy c=>by have:=hp.1 y c;have:=hm y (by simp[c]);omega) (by omega)
  simp only[aaN];omega
def cw (g:af) (x:ay):Prop:=(-1<=x.au/\x.au < (g.rules.length:Int))/\0<=x.dot/\x.dot<=(aM g x.au).length
theorem dS {g:af} (a:g.cY) {r:Int} (h : -1<=r/\r < (g.rules.length:Int)):(aM g r).length<=6:=by
 unfold aM
 split
 .simp
 .have b:g.rules[r.toNat]?=some (aA g r):=by unfold aA;exact getD_some (by omega)
  exact a.right _ (aaI b)
theorem gR {g:af} (f:g.cY) {l:List ay} (i:cz l) (h:∀ x∈l,cw g x):l.length<=287:=by
 have d:∀ x∈l,0<=x.dot/\x.dot<=6:=λx c=>by
  have h1:=h x c
  have:=dS f h1.1
  exact⟨h1.2.1,by have:=h1.2.2;omega⟩
 have h1:(l.map λx=>(x.au+1) * 7+x.dot).Pairwise (· < ·):=by
  rw[acL]
  refine List.Pairwise.imp_of_mem ?_ i
  intro a b j k e
  rw[fZ] at e
  have:=d a j;have:=d b k
  omega
 have:=JR _ 0 287 h1 (λy m=>by
  obtain⟨x,c,rfl⟩:=aaX.1 m
  have n:=(h x c).1
  have:=d x c;have:=f.rules
  omega) (by omega)
 simp at this
 omega
inductive lx (g:af) (l:List ay):ay->Prop
 | base {x:ay} : x∈l->lx g l x
 | step {x:ay} {s:Int} {k:Nat} {R:aX} : lx g l x->aW g x=(s,true)->s < 0->g.rules[k]?=some R->R.left = -1 - s->lx g l ⟨k,0⟩
theorem lx.has {g:af} {l:List ay} (a:∀ x∈l,cw g x) {x:ay} (h:lx g l x):cw g x:=by
 induction h with
 | base h=>exact a _ h
 | step _ _ _ hk _ _ =>
  have:=(aaR.1 hk).1
  exact⟨⟨by simp only;omega,by simp only;omega⟩,by simp only;omega,by simp only;omega⟩
def LK (g:af):List ay:=(List.range (g.rules.length+1)).flatMap λ(r:Nat)=>(List.range 7).map λ(d:Nat)=>(⟨(r:Int) - 1,(d:Int)⟩:ay)
theorem P0 {g:af} (a:g.cY) {x:ay} (h:cw g x):x∈LK g:=by
 have:=dS a h.1
 obtain⟨⟨h1,b⟩,c,e⟩:=h
 simp only[LK,List.mem_flatMap,aaX,abA]
 refine⟨(x.au+1).toNat,by omega,x.dot.toNat,by omega,?_⟩
 obtain⟨r,d⟩:=x
 simp only at h1 b c e this
 simp only[ay.mk.injEq];omega
theorem vi:∀ (l a:List ay),cz a->cz (l.foldl eW a)/\∀ x,x∈l.foldl eW a↔x∈a∨x∈l
 | [],a,h=>⟨h,λx=>by simp⟩
 | y :: l,a,h=>by
  obtain⟨h1,b⟩:=vi l (eW a y) (pN h)
  refine⟨h1,λx=>?_⟩
  rw[abc,b,jG,aaT]
  constructor
  .rintro ((h | h) | h) <;> simp[h]
  .rintro (h | h | h) <;> simp[h]
open Classical in
noncomputable def cJ (g:af) (l:List ay):List ay:=((LK g).filter λx=>decide (lx g l x)).foldl eW []
theorem kQ (g:af) (l:List ay):cz (cJ g l):=(vi _ [] .nil).1
theorem dc {g:af} (a:g.cY) {l:List ay} (b:∀ x∈l,cw g x) {x:ay} : x∈cJ g l↔lx g l x:=by
 classical
 rw[cJ,(vi _ [] .nil).2]
 simp only[List.not_mem_nil,false_or,abt,aaP]
 exact⟨λh=>h.2,λh=>⟨P0 a (h.has b),h⟩⟩
theorem Df {g:af} (b:g.cY) {l o:List ay} (c:∀ x∈l,cw g x) (a:cz o) (h1:∀ x∈o,lx g l x) (d:∀ x∈l,x∈o)
  (e:∀ x∈o,∀ (s:Int) (k:Nat) (R:aX),aW g x=(s,true)->s < 0->g.rules[k]?=some R->R.left = -1 - s->(⟨k,0⟩:ay)∈o):cJ g l=o:=by
 refine BA (kQ g l) a λx=>?_
 rw[dc b c]
 refine⟨λh=>?_,h1 x⟩
 induction h with
 | base h=>exact d _ h
 | step _ f a hk i j=>exact e _ j _ _ _ f a hk i
theorem Ih {g:af} (a:g.cY) {l:List ay} (b:∀ x∈l,cw g x):(cJ g l).length<=287 :=
 gR a (kQ g l) λ_ c=>((dc a b).1 c).has b
def bA (g:af) (l:List ay) (s:Int):List ay:=(l.filter λx=>decide (aW g x=(s,true))).map λx=>⟨x.au,x.dot+1⟩
theorem mo {g:af} {l:List ay} {s:Int} {y:ay} : y∈bA g l s↔∃ x∈l,aW g x=(s,true)/\y=⟨x.au,x.dot+1⟩:=by
 simp only[bA,aaX,abt,aaP]
 constructor
 .rintro⟨x,⟨h1,a⟩,rfl⟩;exact⟨x,h1,a,rfl⟩
 .rintro⟨x,h1,a,rfl⟩;exact⟨x,⟨h1,a⟩,rfl⟩
theorem Ip {g:af} {l:List ay} (s:Int) (h:cz l):cz (bA g l s):=by
 rw[cz,bA,acL]
 refine(h.filter _).imp ?_
 intro a b c
 rw[fZ] at c ⊢
 simp only;omega
theorem r7 {g:af} {x:ay} {s:Int} (h:aW g x=(s,true)):x.dot≠(aM g x.au).length/\(aM g x.au).getD x.dot.toNat 0=s:=by
 unfold aW at h
 split at h
 .simp at h
 .rename_i a;exact⟨a,by simpa using h⟩
theorem Jv {g:af} {l:List ay} {s:Int} (a:∀ x∈l,cw g x):∀ y∈bA g l s,cw g y:=by
 intro y b
 obtain⟨x,c,d,rfl⟩:=mo.1 b
 have h1:=a x c
 have e:=(r7 d).1
 exact⟨h1.1,by simp only;have:=h1.2;omega,by simp only;have:=h1.2;omega⟩
theorem QB {g:af} {l:List ay} (b:cz l) {i:Nat} {x:ay} (c:l[i]?=some x) (s:Int) :
  bA g (l.take (i+1)) s=if aW g x=(s,true) then eW (bA g (l.take i) s) ⟨x.au,x.dot+1⟩ else bA g (l.take i) s:=by
 have e:l.take (i+1)=l.take i ++ [x]:=by rw[aa3,c];rfl
 rw[e]
 split
 .rename_i h
  rw[IF]
  .simp[bA,h]
  .intro y d
   obtain⟨z,f,_,rfl⟩:=mo.1 d
   have a:cz (l.take (i+1)):=b.sublist (List.take_sublist _ _)
   rw[e,cz,List.pairwise_append] at a
   have:=a.2.2 z f x (by simp)
   rw[fZ] at this ⊢
   simp only;omega
 .rename_i h
  simp[bA,h]
theorem uL {g:af} {l:List ay} {s:Int} : (bA g l s).length<=l.length:=by
 rw[bA,aaJ];exact abJ _ _
structure aJ where
 bc:List ay
 bO:List fp
 deriving DecidableEq
abbrev bC:aJ:=⟨[],[]⟩
def bh (g:af) (i:Nat):Int:=if i < g.ai.length then i else -1 - ((i:Int) - g.ai.length)
def findD:List aJ->List ay->Int
 | [],_=>-1
 | s :: l,k=>if s.bc=k then 0 else if findD l k < 0 then -1 else findD l k+1
theorem uO:∀ (l:List aJ) (k:List ay),-1<=findD l k
 | [],_=>by simp[findD]
 | s :: l,k=>by
  have:=uO l k
  rw[findD];split
  .omega
  .split <;> omega
theorem zg:∀ (l:List aJ) (k:List ay),findD l k < l.length
 | [],_=>by simp[findD]
 | s :: l,k=>by
  have:=zg l k
  rw[findD];simp only[aaN];split
  .omega
  .split <;> omega
theorem LX:∀ (l:List aJ) (k:List ay) (i:Nat),findD l k=i->∃ s,l[i]?=some s/\s.bc=k
 | [],_,i,h=>by simp[findD] at h
 | s :: l,k,i,h=>by
  rw[findD] at h
  split at h
  .rename_i e
   have:i=0:=by omega
   subst this
   exact⟨s,rfl,e⟩
  .split at h
   .omega
   .obtain⟨j,rfl⟩:∃ j,i=j+1:=⟨i - 1,by omega⟩
    obtain⟨t,h1,a⟩:=LX l k j (by omega)
    exact⟨t,by simpa using h1,a⟩
theorem JB:∀ (l:List aJ) (k:List ay),findD l k < 0->∀ s∈l,s.bc≠k
 | [],_,_,s,a=>by simp at a
 | t :: l,k,h,s,a=>by
  rw[findD] at h
  split at h
  .omega
  .rename_i b
   have c:findD l k < 0:=by
    split at h
    .assumption
    .omega
   rcases aaT.1 a with rfl | a
   .exact b
   .exact JB l k c s a
theorem Jq:∀ (l:List aJ) (k:List ay) (i:Nat) (s:aJ),l[i]?=some s->s.bc=k->(∀ j t,j < i->l[j]?=some t->t.bc≠k)->findD l k=i
 | [],_,_,_,h,_,_=>by simp at h
 | t :: l,k,0,s,h,hk,_=>by simp at h;subst h;simp[findD,hk]
 | t :: l,k,i+1,s,h,hk,a=>by
  have b:=a 0 t (by omega) rfl
  have:=Jq l k i s (by simpa using h) hk λj u c hu=>a (j+1) u (by omega) (by simpa using hu)
  rw[findD,aaD b,this,aaD (by omega)];omega
theorem EV:∀ (l:List aJ) (k:List ay),(∀ s∈l,s.bc≠k)->findD l k = -1
 | [],_,_=>rfl
 | t :: l,k,h=>by
  have:=EV l k λs a=>h s (by simp[a])
  rw[findD,aaD (h t (by simp)),this];rfl
def dw (g:af) (l:List ay) (at_:Nat) (out:List aJ) (i:Nat):List aJ :=
 if bA g l (bh g i)=[] then out else
 if findD out (bA g l (bh g i)) < 0 then (out ++ [(⟨bA g l (bh g i),[]⟩:aJ)]).modify at_ λs=>(⟨s.bc,s.bO ++ [⟨bh g i,out.length⟩]⟩:aJ)
 else out.modify at_ λs=>(⟨s.bc,s.bO ++ [⟨bh g i,findD out (bA g l (bh g i))⟩]⟩:aJ)
noncomputable def xg (g:af) (at_:Nat) (out:List aJ) (n:Nat):List aJ:=(List.range n).foldl (dw g (cJ g (out.getD at_ bC).bc) at_) out
noncomputable def fN (g:af):Nat->Nat->List aJ->List aJ × Int
 | 0,_,out=>(out,0)
 | f+1,at_,out=>if at_ < out.length then
   (if 300 < (xg g at_ out (g.ai.length+g.al.length)).length then ([],5) else fN g f (at_+1) (xg g at_ out (g.ai.length+g.al.length)))
  else (out,0)
def eu:List aJ:=[⟨[⟨-1,0⟩],[]⟩]
abbrev BV:=BitVec 32
def jq (n:Int):BV:=if 0<=n/\n<=31 then BitVec.twoPow 32 n.toNat else 0
theorem AU {a b:BV} (h:∀ i,i < 32->a.getLsbD i=b.getLsbD i):a=b:=BitVec.eq_of_getLsbD_eq λi hi=>h i hi
def qt (a b:BV):Prop:=∀ i,a.getLsbD i=true->b.getLsbD i=true
theorem F6 {a b:BV} : (a ||| b)=b↔qt a b:=by
 constructor
 .intro h i hi
  rw[<-h,abm,hi];rfl
 .intro h
  refine AU λi _=>?_
  rw[abm]
  cases c:a.getLsbD i with
  | false=>rfl
  | true=>rw[h i c];rfl
theorem CV {a b:BV} : (a &&& ~~~b)=0↔qt a b:=by
 constructor
 .intro h i hi
  have c:i < 32:=BitVec.lt_of_getLsbD hi
  have:=abN (λx:BV=>x.getLsbD i) h
  simp only[BitVec.getLsbD_and,BitVec.getLsbD_not,hi] at this
  simpa [c] using this
 .intro h
  refine AU λi c=>?_
  simp only[BitVec.getLsbD_and,BitVec.getLsbD_not]
  cases d:a.getLsbD i with
  | false=>simp
  | true=>rw[h i d];simp
theorem Q8 {a:BV} : a=0↔∀ i,a.getLsbD i=false:=by
 constructor
 .rintro rfl i;simp
 .intro h;exact AU λi _=>by rw[h];simp
theorem Zd (a b:BV):b.toNat<=(a ||| b).toNat:=by
 rw[BitVec.toNat_or];exact Nat.right_le_or
def ej (null:List Bool) (first:List BV) (rest:BV):List Int->BV
 | []=>rest
 | s :: l=>if 0<=s then jq s else if null.getD (-1 - s).toNat false=true then first.getD (-1 - s).toNat 0 ||| ej null first rest l else first.getD (-1 - s).toNat 0
theorem LL {null:List Bool} {first:List BV} {a b:BV} (h:qt a b):∀ l:List Int,qt (ej null first a l) (ej null first b l)
 | []=>h
 | s :: l=>by
  intro i hi
  rw[ej] at hi ⊢
  split
  .rename_i c;rw[aaF c] at hi;exact hi
  .rename_i c
   rw[aaD c] at hi
   split
   .rename_i h1
    rw[aaF h1] at hi
    rw[abm,abC] at hi ⊢
    exact hi.imp id (LL h l i)
   .rename_i h1;rw[aaD h1] at hi;exact hi
theorem XI {null:List Bool} {first:List BV} {a:BV} : ∀ (l:List Int) (i:Nat),(ej null first a l).getLsbD i=true->a≠0->∃ t,a.getLsbD t=true/\(ej null first (BitVec.twoPow 32 t) l).getLsbD i=true:=by
 intro l i
 have b:a≠0->∃ t,a.getLsbD t=true:=λh=>abO λf=>h (Q8.2 λj=>by
  cases g:a.getLsbD j with
  | false=>rfl
  | true=>exact absurd ⟨j,g⟩ f)
 induction l with
 | nil =>
  intro h _
  refine⟨i,h,?_⟩
  rw[ej,ab0]
  have:=BitVec.lt_of_getLsbD h
  simp[this]
 | cons s l k =>
  intro h e
  rw[ej] at h
  split at h
  .rename_i c
   obtain⟨t,d⟩:=b e
   exact⟨t,d,by rw[ej,aaF c];exact h⟩
  .rename_i c
   split at h
   .rename_i h1
    rw[abm,abC] at h
    rcases h with h | h
    .obtain⟨t,d⟩:=b e
     exact⟨t,d,by rw[ej,aaD c,aaF h1,abm,h];rfl⟩
    .obtain⟨t,m,n⟩:=k h e
     exact⟨t,m,by rw[ej,aaD c,aaF h1,abm,n,Bool.or_true]⟩
   .rename_i h1
    obtain⟨t,d⟩:=b e
    exact⟨t,d,by rw[ej,aaD c,aaD h1];exact h⟩
theorem OG {a:BV} {t:Nat} (h:a.getLsbD t=true):qt (BitVec.twoPow 32 t) a:=by
 intro i hi
 rw[ab0] at hi
 simp only[aaK,aaP] at hi
 rw[<-hi.2];exact h
def lN (null:List Bool) (fs:List BV) (r:aX):List BV:=fs.set r.left.toNat (fs.getD r.left.toNat 0 ||| ej null fs 0 r.right)
theorem IG (null:List Bool) (a:List BV) (r:aX):(lN null a r).length=a.length:=by simp[lN]
def uM (g:af) (null:List Bool) (fs:List BV):List BV:=g.rules.foldl (lN null) fs
theorem HP (null:List Bool):∀ (l:List aX) (a:List BV),(l.foldl (lN null) a).length=a.length
 | [],_=>rfl
 | r :: l,a=>by rw[abc,HP null l,IG]
theorem Py (g:af) (null:List Bool) (a:List BV):(uM g null a).length=a.length:=HP _ _ _
def cU (g:af) (null:List Bool):List BV:=iter (uM g null) g.al.length (List.replicate g.al.length 0)
theorem Bf {f:List BV->List BV} (a:∀ l,(f l).length=l.length):∀ (n:Nat) (l:List BV),(iter f n l).length=l.length
 | 0,_=>rfl
 | n+1,l=>by rw[iter,Bf a n,a]
theorem FW (g:af) (null:List Bool):(cU g null).length=g.al.length:=by
 rw[cU,Bf (Py g null)];simp
end Gv
