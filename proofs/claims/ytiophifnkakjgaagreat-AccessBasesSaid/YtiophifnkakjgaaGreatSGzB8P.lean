/-
  Part 16 of the proof: what the machine does and what the functions answer.
  Conditions: those that each lemma names.
-/
import Derived.Test.YtiophifnkakjgaaGreatSGzB8O
set_option linter.unusedSimpArgs false
set_option linter.unusedVariables false
set_option maxRecDepth 100000
set_option maxHeartbeats 20000000
namespace Gv
open Go Go.Proofs
def GH (x:(List Int × List Int) × Int):V:=.aY [encI x.1.1,encI x.1.2,gi x.2]
def km (b:rF):List V:=[gi b.state,gi b.len,encI b.word]
def tg (x:List rF × Int):V:=.aY [.aQ (x.1.map km),gi x.2]
noncomputable def CL (g:ag) (s:Int):(List Int × List Int) × Int :=
 if (bS g).2≠0 then (([],[]),(bS g).2) else if s < 0∨((bS g).1.length:Int)<=s then (([],[]),11) else (ey g (bS g).1 s.toNat,0)
def dp (g:ag) (a:List aP):Nat->List rF × Int
 | 0=>([],0)
 | i+1=>if (dp g a i).2≠0 then dp g a i else if (dw g ((ey g a i).1 ++ (ey g a i).2)).2≠0 then ([],(dw g ((ey g a i).1 ++ (ey g a i).2)).2) else ((dp g a i).1 ++ [AY g a i],0)
noncomputable def jq (g:ag):List rF × Int:=if (bS g).2≠0 then ([],(bS g).2) else dp g (bS g).1 (bS g).1.length
theorem Rj {h:aC} {u v:V} {x y:List Int} (hu:yH u x) (a:Fr h v (encI y)):Fr h (.aY [u,v,gi 0]) (GH ((x,y),0)):=.aY _ _ rfl λi hi=>by
 match i,hi with
 | 0,_=>exact hu.jR h rfl
 | 1,_=>exact a
 | 2,_=>exact .tree _ (.val _)
theorem Aq {h:aC} {e:Int} : Fr h (.aY [.emp 1,.emp 1,gi e]) (GH (([],[]),e)):=.aY _ _ rfl λi hi=>by
 match i,hi with
 | 0,_=>exact .emp 1
 | 1,_=>exact .emp 1
 | 2,_=>exact .tree _ (.val _)
theorem sw (b:rF):∀ v∈km b,Tree v:=by
 intro v a
 simp[km] at a
 rcases a with rfl | rfl | rfl
 .exact .val _
 .exact .val _
 .exact bQ _
theorem zF {g:ag} {a:List aP} {i:Nat} (h:(dp g a i).2≠0):∀ d,dp g a (i+d)=dp g a i
 | 0=>rfl
 | d+1=>by
  have b:=zF h d
  rw[<-VR,dp,b,Uz h]
theorem Co {g:ag} {a:List aP} {i n:Nat} (h:(dp g a i).2≠0) (hi:i<=n):dp g a n=dp g a i:=by
 have:=zF h (n - i)
 rwa [show i+(n - i)=n by omega] at this
theorem rK {g:ag} {a:List aP} : ∀ i,(dp g a i).1.length<=i
 | 0=>by simp[dp]
 | i+1=>by
  have b:=rK (g:=g) (a:=a) i
  rw[dp]
  split
  .omega
  .split
   .simp
   .simp;omega
def pj:SF:=⟨ae [ab [bI 4 1,bI 5 1],ab [aa 7 0,kN 8 7,al 9 6 8,ak 10 9,aa 11 0,kN 12 11,al 13 7 12,ak 14 13,aa 15 1,aO 16 1 14 15,ak 17 16,aO 18 5 10 17,aS 19 5 18,((some 6),.op (.alloc [(.val (.int .i64 0)),(.val (.int .i64 0)),(.val (.int .i64 0)),(.emp 1),(.emp 1)])),cg 5 6 19],.region true [⟨none,[al 20 3 6,ak 21 20,aa 22 0,al 23 0 6,al 24 1 23,aS 25 2 24,aX 26 127 [22,25],al 27 4 6,ak 28 27,((some 29),.op (.bP 2 1 [(.emp 1)] [(0,(.tmp 26)),(1,(.tmp 28))])),aX 30 68 [29],aa 4 21,aa 5 30]⟩],.ret],
 [.tmp 4,.tmp 5],31⟩
theorem tY:aH Tryz.prog 62 []=some pj:=by kernel_rfl
def yZ:SF:=⟨ae [ab [cw 2 0,bI 4 1,bI 5 1,aN 6 0],ab [aS 12 4 2,aX 13 60 [12],aa 11 13,du 14 0 11,du 15 1 11,aa 7 14,aa 8 15],.block 0 (ae [ab [aa 17 8,aG 18 .neq 17 0,aa 16 18],.cond (.tmp 16) (ae [ab [aa 19 8,bI 4 1,bI 5 1,aa 6 19],.ret]) (ae [.region false [⟨none,[aa 21 1,aG 22 .lss 21 0,aa 23 22]⟩,⟨(some (23,false)),[aa 24 1,aa 25 7,aM 26 25,aR 27 .geq 24 26]⟩,⟨none,[cM 28 23 27,aa 20 28]⟩],ba 20 (ae [ab [bI 4 1,bI 5 1,aN 6 11],.ret])])]),ab [aS 30 4 2,aa 31 7,aX 32 61 [30,31],aa 33 1,aX 34 62 [32,33],aa 29 34,du 35 0 29,du 36 1 29,aa 9 35,aa 10 36],ab [aa 37 9,aa 38 10,aa 4 37,aa 5 38,aN 6 0],.ret],
 [.tmp 4,.tmp 5,.tmp 6],39⟩
theorem BQ:aH Tryz.prog 24 [2]=some yZ:=by kernel_rfl
def sE:SC :=
 ae [ab [aR 28 .lss 27 26],bX 28 (.exit 0),.block 1 (ae [ab [aa 29 27,aa 8 29],ab [aa 31 6,aa 32 8,aX 33 62 [31,32],aa 30 33,du 34 0 30,du 35 1 30,aa 9 34,aa 10 35],.region true [⟨none,[aS 37 4 1,aa 38 9,aa 39 10,((some 40),.op (.bP 2 1 [(.emp 1)] [(0,(.tmp 38)),(1,(.tmp 39))])),aX 41 68 [40],aX 42 67 [37,41],aa 36 42,du 43 0 36,du 44 1 36,aa 11 43,aa 12 44]⟩],ae [ab [aa 45 12,aG 46 .neq 45 0],ba 46 (ae [ab [aa 47 12,bI 2 1,aa 3 47],.ret])],ab [aS 49 4 1,aa 50 9,aX 51 67 [49,50],aa 48 51,du 52 0 48,du 53 1 48,aa 13 52,aa 12 53],ae [ab [aa 54 12,aG 55 .neq 54 0],ba 55 (ae [ab [aa 56 12,bI 2 1,aa 3 56],.ret])],ab [aa 57 7,aa 58 8,aa 59 13,aM 60 59,aa 61 11,((some 62),.op (.build [(.val (.int .i64 0)),(.val (.int .i64 0)),(.emp 1)] [(0,1,(.tmp 58)),(1,1,(.tmp 60)),(2,1,(.tmp 61))])),((some 63),.op (.bP 1 3 [(.val (.int .i64 0)),(.val (.int .i64 0)),(.emp 1)] [(0,(.tmp 62))])),fk 64 3 40 57 63,aa 7 64]]),ab [aG 65 .add 27 1,aa 27 65]]
def uC:SF:=⟨ae [ab [cw 1 0,bI 2 1,aN 3 0],ab [aS 15 4 1,aX 16 60 [15],aa 14 16,du 17 0 14,du 18 1 14,aa 4 17,aa 5 18],ae [ab [aa 19 5,aG 20 .neq 19 0],ba 20 (ae [ab [aa 21 5,bI 2 1,aa 3 21],.ret])],ab [aS 22 4 1,aa 23 4,aX 24 61 [22,23],aa 6 24],ab [bI 7 1],ae [ab [aa 25 4,aM 26 25,aN 27 0],bY 0 sE],ab [aa 66 7,aa 2 66,aN 3 0],.ret],
 [.tmp 2,.tmp 3],67⟩
theorem zr:aH Tryz.prog 28 [1]=some uC:=by kernel_rfl
theorem OE (g:ag) (hg:g.Ok) (a:List aP) (N:dT g a) (h3:a.length<=300) (b:Nat) (B:Nat) (K:List dN) (i:Nat) (hi:i < a.length) (H:View) (hW:eT H b g a (ct g a) B K) :
  av Tryz.prog 62 [.ptr b 0 0,gi i] H λr H'=>(∃ v,yH v (ey g a i).1/\r=.aY [v,encI (ey g a i).2])/\∀ id,H id≠.dead->H' id=H id:=by
 have hf:=N.gU
 have aq:=iY hf
 obtain⟨f1,f2,f3⟩:=AH N h3 hi
 obtain⟨p1,p2,p3,p4,_,_⟩:=xG N h3 hi
 obtain⟨k,k1,k2,k3⟩:=zI i (ct g a) 0 ⟨_,f1,f2⟩
 rw[Vm] at k1
 have O:ey g a i=((c9 (ct g a) i).ah,dd g (c9 (ct g a) i).it ++ (c9 (ct g a) i).be):=rfl
 rw[O]
 obtain⟨q,us,uf,S,m,c,w⟩:=hW
 have ar:S.length=(ct g a).length:=by rw[<-w.is,UB]
 have P:=w.own.is 2 rfl (by simp)
 have Q:S[k]?=some (S[k]'(by omega)):=Uv (by omega)
 have A:=UC (show k < S.length by omega)
 generalize S[k]'(by omega)=y at Q A
 have R:y.n=c9 (ct g a) i:=by
  have:(S.map dU.n)[k]?=some y.n:=by rw[Uy,Q];rfl
  rw[w.is,k3] at this
  simpa using this.symm
 have j:=w.ok y A
 rw[<-R] at p1 p2 p3 p4 ⊢
 obtain⟨n,C,hH⟩:=(w.own.own 0 rfl).sl (by simp;omega)
 rw[UB] at C
 have D:(S.map dc).getD k []=dc y:=by simp[Uu,Q]
 have p:(eE a (ct g a)).length=a.length:=by simp[eE]
 obtain⟨nf,E,hF⟩:=(w.own.own 1 rfl).sl (by simp[p];omega)
 rw[UB,p] at E
 have T:(bt (eE a (ct g a))).getD i []=[gi k]:=by
  rw[bt,Uu,Uy,eE,Uy,VI hi]
  simp[k1]
 obtain⟨⟨U,W,a1⟩,⟨F,G,a6⟩⟩:=And.intro j.a.er j.b.er
 have X:=ry (dd g y.n.it) y.n.be (by omega)
 simp only[dc] at D
 refine av.of mixed tY ?_
 simp(disch:=omega)only[↓wr,seval,wq,pj,P,C,E,hF,T,hH,D,U,W,F,G]
 refine⟨hi,by rw[p];exact hi,by omega,by omega,λl s=>?_⟩
 rw[set_set]
 have Y:¬ b=l:=by rintro rfl;rw[P] at s;simp at s
 have I:(H.set l (.arr 5 [[gi y.n.st,gi y.n.it.ax,gi y.n.it.dot,y.a,y.b]])) b=.arr 8 [qx g a q us uf]:=by simp only[View.set,Ux Y,P]
 have t:(H.set l (.arr 5 [[gi y.n.st,gi y.n.it.ax,gi y.n.it.dot,y.a,y.b]])) l=.arr 5 [[gi y.n.st,gi y.n.it.ax,gi y.n.it.dot,y.a,y.b]]:=by simp only[View.set,if_true]
 have f:∀ id,H id≠.dead->(H.set l (.arr 5 [[gi y.n.st,gi y.n.it.ax,gi y.n.it.dot,y.a,y.b]])) id=H id:=λid e=>by
  have:¬ id=l:=by rintro rfl;exact e s
  simp only[View.set,Ux this]
 generalize View.set H l (.arr 5 [[gi y.n.st,gi y.n.it.ax,gi y.n.it.dot,y.a,y.b]])=H1 at I t f ⊢
 have hr:=Iw g (by unfold bO;omega) a q us uf b H1 I y.n.it p1
 simp only[bA] at hr
 refine aw.still hr (λr H' h id e=>(h.2 id e).1) ?_
 rintro u M ⟨hu,J⟩
 have L:aF u=true/\V.cells u=[u]:=by
  rcases hu with rfl | ⟨n,x,d,rfl,_⟩ <;> exact⟨rfl,rfl⟩
 have Z:M l=.arr 5 [[gi y.n.st,gi y.n.it.ax,gi y.n.it.dot,y.a,y.b]]:=by rw[(J l (by rw[t];simp)).1];exact t
 simp(disch:=omega)only[↓wr,seval,wq,Z,L.1,L.2,F,G]
 intro n9 z
 have an:∀ {o:dB} (id:Nat),M id≠.dead->(M.set n9 o) id=M id:=λ{o} id e=>by
  have:¬ id=n9:=by rintro rfl;exact e z
  simp only[View.set,Ux this]
 refine aw.j0 X (by kernel_rfl) ⟨cm.two (by simp only[View.set,if_true]) ((hu.keep λid e=>an id e).jR) j.b.jR,trivial⟩ ?_
 simp(disch:=omega)only[↓wr,seval,wq]
 refine⟨⟨y.a,j.a,rfl⟩,λid e=>?_⟩
 have h1:=f id e
 have h2:=(J id (by rw[h1];exact e)).1
 have e9:¬ id=n9:=by rintro rfl;rw[h2,h1] at z;exact e z
 rw[Ux e9,h2,h1]
theorem eT.app {H:View} {b:Nat} {g:ag} {a:List aP} {l:List bB} {B:Nat} {u:V} {sz:Nat} {es:List (List V)} (h:eT H b g a l B [(u,sz,es)]):aK H u sz es/\∀ d H' es',aK H' d sz es'->Left H H' u d->eT H' b g a l B [(d,sz,es')]:=by
 obtain⟨q,us,f,S,m,c,w⟩:=h
 refine⟨w.own.own 3 rfl,λd H' es' i e=>⟨q,us,f,S,m,c,?_,e.map (w.own.own 3 rfl) w.map,w.born,w.seen,w.is,w.ok⟩⟩
 exact((w.own.perm Cv).left i e).perm Cv.symm
theorem PK (g:ag) (i:Int):∀ v∈[V.agg (af g),gi i],Tree v:=by
 intro v a;simp at a
 rcases a with rfl | rfl
 .exact bZ _ (cz g)
 .exact .val _
theorem Jy (g:ag) (f:g.Ok) (j:g.Small) (s:Int):az Tryz.prog 24 [.agg (af g),gi s] (GH (CL g s)):=by
 refine az.of (PK g s) ?_
 have l:=(EJ g f j).pure
 have d:cd (bM (bS g).1)=some (bS g).1.length:=by simp[bM,cd]
 refine av.of mixed BQ ?_
 simp only[af,encS] at l
 simp(disch:=omega)only[↓wr,seval,wq,yZ,af,encS]
 refine aw.pure l ?_
 simp(disch:=omega)only[↓wr,seval,wq]
 unfold CL
 apply ai.ne<;>intro h
 .rw[Uz h]
  simp(disch:=omega)only[↓wr,seval,wq]
  intro k _
  exact Aq
 rw[Ux (by omega)]
 obtain⟨_,m,c⟩:=y9 h
 generalize (bS g).1=a at *
 simp(disch:=omega)only[↓wr,seval,wq,d]
 apply ai.dec<;>intro h1
 .rw[Uz (by omega)]
  simp(disch:=omega)only[↓wr,seval,wq]
  intro k _
  exact Aq
 simp(disch:=omega)only[↓wr,seval,wq,d]
 apply ai.dec<;>intro n
 .rw[Uz (by omega)]
  simp(disch:=omega)only[↓wr,seval,wq]
  intro k _
  exact Aq
 rw[Ux (by omega)]
 obtain⟨i,rfl⟩:∃ i:Nat,s=i:=⟨s.toNat,by omega⟩
 have e:=Kf g f a m c (λ_=>.dead)
 simp only[af,encS] at e
 simp(disch:=omega)only[↓wr,seval,wq,af,encS]
 refine aw.dL (e.mono ?_)
 rintro _ H1 ⟨b,rfl,w⟩
 simp(disch:=omega)only[↓wr,seval,wq]
 refine aw.dL ((OE g f a m c b _ _ i (by omega) H1 w).mono ?_)
 rintro _ p ⟨⟨v,o,rfl⟩,_⟩
 simp(disch:=omega)only[↓wr,seval,wq]
 intro k _
 exact Rj o (.tree _ (bQ _))
theorem xQ (g:ag) (m:g.Ok) (d:g.Small):az Tryz.prog 28 [.agg (af g)] (tg (jq g)):=by
 refine az.of (dO g) ?_
 have O:=(EJ g m d).pure
 have z:cd (bM (bS g).1)=some (bS g).1.length:=by simp[bM,cd]
 refine av.of mixed zr ?_
 simp only[af,encS] at O
 simp(disch:=omega)only[↓wr,seval,wq,uC,af,encS]
 refine aw.pure O ?_
 simp(disch:=omega)only[↓wr,seval,wq]
 unfold jq
 apply ai.ne<;>intro h
 .rw[Uz h]
  simp(disch:=omega)only[↓wr,seval,wq]
  intro A _
  exact(kb (.emp 1)).K7
 rw[Ux (by omega)]
 obtain⟨_,B,c⟩:=y9 h
 generalize (bS g).1=a at *
 have p:=Kf g m a B c (λ_=>.dead)
 simp only[af,encS] at p
 simp(disch:=omega)only[↓wr,seval,wq,af,encS]
 refine aw.dL (p.mono ?_)
 rintro _ H1 ⟨b,rfl,w⟩
 simp(disch:=omega)only[↓wr,seval,wq,z]
 refine aV.up a.length (λi T H'=>∃ (u:V),(dp g a i).2=0/\eT H' b g a (ct g a) 100000000 [(u,3,(dp g a i).1.map km)]/\T 1=.aJ (af g) 0/\T 6=.ptr b 0 0/\T 7=u/\T 26=gi a.length/\T 27=gi i) ⟨.emp 1,rfl,w.add .nil .emp,rfl,rfl,rfl,rfl,rfl⟩ ?_
 clear w
 rintro i k T H hk ⟨u,he,w,t1,t6,t7,t26,t27⟩
 simp(disch:=omega)only[↓wr,seval,wq,sE,t1,t6,t7,t26,t27]
 apply ai.dec<;>intro R
 .have hi:i < a.length:=by omega
  obtain⟨p1,S,p3,p4,U,W⟩:=xG B c hi
  have C:ey g a i=((c9 (ct g a) i).ah,dd g (c9 (ct g a) i).it ++ (c9 (ct g a) i).be):=rfl
  have P:(ey g a i).1.length<=86100/\(ey g a i).2.length<=600000/\(∀ s∈(ey g a i).1,bO s)/\(∀ s∈(ey g a i).1 ++ (ey g a i).2,bO s):=by
   rw[C]
   exact⟨S,by simp only[UY];omega,U,W⟩
  obtain⟨P,q2,X,Y⟩:=P
  have hw:=OE g m a B c b _ _ i hi H w
  have l:dp g a (i+1)=if (dw g ((ey g a i).1 ++ (ey g a i).2)).2≠0 then ([],(dw g ((ey g a i).1 ++ (ey g a i).2)).2) else ((dp g a i).1 ++ [AY g a i],0):=by
   rw[dp,Ux (by rw[he];simp)]
  have D:AY g a i=⟨i,((dw g (ey g a i).1).1.length:Int),(dw g ((ey g a i).1 ++ (ey g a i).2)).1⟩:=rfl
  have E:=λh=>(Hg (g:=g) (u:=(ey g a i).1) (v:=(ey g a i).2) h).1
  generalize (ey g a i).1=x at *
  generalize (ey g a i).2=y at *
  have F:=ry x y (by omega)
  have q:=(Gc g m d (x ++ y) (by simp;omega) Y).pure
  have r:=Gc g m d x (by omega) X
  simp only[af,encS,Ag] at q r
  have Z:=rK (g:=g) (a:=a) i
  generalize dw g (x ++ y)=G at *
  generalize dw g x=Q at *
  simp(disch:=omega)only[↓wr,seval,wq,t1,t6,t7,t26,t27]
  refine aw.dL (hw.mono ?_)
  rintro _ H2 ⟨⟨v,f,rfl⟩,I⟩
  have w2:=w.stay I
  obtain⟨J,K,_⟩:=f.er
  simp(disch:=omega)only[↓wr,seval,wq,t1,t6,t7,t26,t27,af,encS,J,K]
  intro n9 L
  have w3:=w2.fresh (o:=.arr 1 [[v],[encI y]]) L
  try simp(disch:=omega)only[↓wr,seval,wq,t1,t6,t7,t26,t27]
  refine aw.j0 F (by kernel_rfl) ⟨cm.two (by simp only[View.set,if_true];rfl) f.jR (.tree (bQ y)),trivial⟩ ?_
  simp(disch:=omega)only[↓wr,seval,wq,t1,t6,t7,t26,t27,af,encS]
  refine aw.pure q ?_
  simp(disch:=omega)only[↓wr,seval,wq,t1,t6,t7,t26,t27,af,encS]
  apply ai.ne<;>intro h1
  .rw[Uz h1] at l
   simp(disch:=omega)only[↓wr,seval,wq]
   intro A _
   rw[Co (i:=i+1) (by rw[l];exact h1) (by omega),l]
   exact(kb (.emp 1)).K7
  rw[Ux (by omega)] at l
  have h2:Q.2=0:=E (by omega)
  simp(disch:=omega)only[↓wr,seval,wq,t1,t6,t7,t26,t27,af,encS]
  refine aw.j0 r (by kernel_rfl) ⟨.tree (bZ _ (cz g)),f.jR,trivial⟩ ?_
  simp(disch:=omega)only[↓wr,seval,wq,t1,t6,t7,t26,t27]
  refine ai.ne (λh=>absurd h2 h) (λ_=>?_)
  simp(disch:=omega)only[↓wr,seval,wq,t1,t6,t7,t26,t27,encI]
  intro n10 t
  have w4:=w3.fresh (n:=n10) (o:=.arr 3 [[gi i,gi Q.1.length,encI G.1]]) t
  obtain⟨M,wk⟩:=w4.app
  simp(disch:=omega)only[↓wr,seval,wq,bH]
  refine eo (es:=(dp g a i).1.map km) M (by simp[aF]) (by unfold aB;simp;omega) (by unfold aB;simp;omega) ?_
  intro u5 H5 o5 l5
  have w5:=wk _ _ _ o5 l5
  simp(disch:=omega)only[↓wr,seval,wq,t1,t6,t26,t27]
  refine aD hk hi ⟨u5,by rw[l],?_,t1,t6,rfl,t26,rfl⟩
  rw[l,D,UT]
  exact w5
 .obtain rfl:i=a.length:=by omega
  simp(disch:=omega)only[↓wr,seval,wq,t7]
  intro A f
  obtain⟨M,_⟩:=w.app
  have N:=cm.own M (λe he v f=>by
   obtain⟨x,_,rfl⟩:=U0.1 he
   exact sw x v f) A f
  unfold tg
  rw[he]
  exact .aY _ _ rfl λj hj=>by
   match j,hj with
   | 0,_=>exact N
   | 1,_=>exact .tree _ (.val _)
def mU:SC :=
 ae [ae [.region false [⟨none,[aa 63 12,al 64 2 2,ak 65 64,aM 66 65,aR 67 .lss 63 66,aa 68 67]⟩,⟨(some (68,true)),[aa 69 8,aG 70 .lss 69 0]⟩,⟨none,[eu 71 68 70]⟩],bX 71 (.exit 2)],.block 3 (ae [ab [al 74 2 2,ak 75 74,aa 76 12,aO 77 3 75 76,al 78 0 77,ak 79 78,aa 80 8,((some 81),.op (.arith .sub (.val (.val (.int .i64 (-1)))) (.tmp 80))),aR 82 .eql 79 81],ba 82 (ab [aa 83 5,al 84 0 7,ak 85 84,aa 86 12,((some 87),.op (.build [(.val (.int .i64 0)),(.val (.int .i64 0))] [(0,1,(.tmp 86))])),al 88 3 7,ak 89 88,aS 90 4 2,al 91 1 7,al 92 0 91,ak 93 92,((some 94),.oG (.val (.fn 66 [] [])) [(.tmp 90),(.tmp 93)]),al 95 1 7,al 96 1 95,ak 97 96,aG 98 .add 97 1,((some 99),.op (.slice 1 (.tmp 94) (some (.tmp 98)) none)),al 100 4 7,ak 101 100,((some 102),.oG (.val (.fn 65 [] [])) [(.tmp 99),(.tmp 101)]),((some 103),.op (.build [(.val (.int .i64 0)),(.val (.int .i64 0)),(.val (.int .i64 0)),(.emp 1),(.emp 1)] [(0,1,(.tmp 85)),(1,2,(.tmp 87)),(3,1,(.tmp 89)),(4,1,(.tmp 102))])),aX 104 128 [83,103],aa 5 104])]),ab [aa 72 12,aG 73 .add 72 1,aa 12 73]]
def ni:SC :=
 ae [ae [ab [aa 16 6,aa 17 5,aM 18 17,aR 19 .lss 16 18],bX 19 (.exit 0)],.block 1 (ae [ab [aa 22 5,aa 23 6,aO 24 5 22 23,aS 25 5 24,((some 7),.op (.alloc [(.val (.int .i64 0)),(.val (.int .i64 0)),(.val (.int .i64 0)),(.emp 1),(.emp 1)])),cg 5 7 25],ab [aS 27 4 2,al 28 1 7,aS 29 2 28,aX 30 100 [27,29],aa 26 30,du 31 0 26,du 32 1 26,aa 8 31,aa 9 32],ae [ab [aa 33 9,c7 34 33],ba 34 (.exit 1)],ab [aa 36 1,al 37 0 7,ak 38 37,aa 39 8,((some 40),.op (.bP 1 1 [(.val (.int .i64 0))] [(0,(.tmp 39))])),aX 41 33 [36,38,40],aa 35 41,du 42 0 35,du 43 1 35,aa 10 42,aa 11 43],ab [aa 44 5,aa 45 10,al 46 1 7,al 47 0 46,ak 48 47,al 49 1 7,al 50 1 49,ak 51 50,aG 52 .add 51 1,((some 53),.op (.build [(.val (.int .i64 0)),(.val (.int .i64 0))] [(0,1,(.tmp 48)),(1,1,(.tmp 52))])),al 54 3 7,ak 55 54,aa 56 8,((some 57),.op (.bP 1 1 [(.val (.int .i64 0))] [(0,(.tmp 56))])),((some 58),.oG (.val (.fn 65 [] [])) [(.tmp 55),(.tmp 57)]),al 59 4 7,ak 60 59,((some 61),.op (.build [(.val (.int .i64 0)),(.val (.int .i64 0)),(.val (.int .i64 0)),(.emp 1),(.emp 1)] [(0,1,(.tmp 45)),(1,2,(.tmp 53)),(3,1,(.tmp 58)),(4,1,(.tmp 60))])),aX 62 128 [44,61],aa 5 62],ab [aN 12 0],bY 2 mU]),ab [aa 20 6,aG 21 .add 20 1,aa 6 21]]
def pb:SF:=⟨ae [ab [cw 2 0,bI 4 1],ab [((some 13),.op (.build [(.val (.int .i64 0)),(.val (.int .i64 0))] [(0,1,(.val (.val (.int .i64 (-1)))))])),((some 14),.op (.build [(.val (.int .i64 0)),(.val (.int .i64 0)),(.val (.int .i64 0)),(.emp 1),(.emp 1)] [(1,2,(.tmp 13))])),((some 15),.op (.bP 1 5 [(.val (.int .i64 0)),(.val (.int .i64 0)),(.val (.int .i64 0)),(.emp 1),(.emp 1)] [(0,(.tmp 14))])),aa 5 15],ae [ab [aN 6 0],bY 0 ni],ab [aa 105 5,aa 4 105],.ret],
 [.tmp 4],106⟩
theorem ud:aH Tryz.prog 64 [2,200058,200094,200102]=some pb:=by kernel_rfl
theorem bc.one {H:View} {u:V} {sz:Nat} {es:List (List V)} (h:aK H u sz es):bc H [(u,sz,es)]:=by
 refine⟨λx a=>by simp at a;subst a;exact h,?_⟩
 cases hu:owner u <;> simp[Vy,hu]
theorem Hm {H:View} {n:Nat} {y:Int} (h:H n=.arr 1 [[gi y]]):cm H (.sl n 0 1 1) (encI [y]) :=
 cm.own (sz:=1) (es:=bt [y]) (.inr ⟨n,rfl,h⟩) (by intro e he v a;simp at he;subst he;simp at a;subst a;exact .val _)
theorem Lr (g:ag) (hg:g.Ok) (hr:bV g=true) (a:List aP) (p:dT g a) (h3:a.length<=300) (H:View) :
  av Tryz.prog 64 [.agg (af g),bM a] H λr H'=>∃ S:List dU,aK H' r 5 (S.map dc)/\S.map dU.n=ct g a/\∀ y∈S,y.Ok:=by
 have K:=p.gU
 have hT:=K.au;have hN:=K.aj;have dm:=K.rules
 have ds:=iY K
 have B:aL a:=by unfold aL;omega
 have eb:aF (bM a)=true/\V.cells (bM a)=[bM a]:=⟨rfl,rfl⟩
 have M:∀ (x:Int) (t:Bool),wC (.aY [gi x,gb t]):=λx t=>.aY _ λi hi=>by
  match i,hi with
  | 0,_=>exact⟨_,rfl⟩
  | 1,_=>exact⟨_,rfl⟩
 refine av.of mixed ud ?_
 simp(disch:=omega)only[↓wr,seval,wq,pb,af,encS]
 intro n0 b8
 refine aV.up 86101 (λi T H'=>∃ (l:List bB) (S:List dU) (u:V),i<=l.length/\iN g a l/\gS g a (90000 - i) i l=ct g a/\S.map dU.n=l/\(∀ y∈S,y.Ok)/\aK H' u 5 (S.map dc)/\T 1=bM a/\T 2=.aJ (af g) 0/\T 5=u/\T 6=gi i)
  ⟨kL,[⟨⟨0,⟨-1,0⟩,[],[]⟩,.emp 1,.emp 1⟩],.sl n0 0 1 5,by simp,vW p,rfl,rfl,?_,.inr ⟨n0,rfl,by simp[View.set];rfl⟩,rfl,rfl,rfl,rfl⟩ ?_
 .intro y W
  simp at W
  subst W
  exact⟨.inr ⟨rfl,rfl⟩,.inr ⟨rfl,rfl⟩⟩
 clear b8
 rintro i kk T H1 N ⟨l,S,u,ee,v,O,Z,C,ho,t1,t2,t5,t6⟩
 have b9:S.length=l.length:=by rw[<-Z,UB]
 have cc:cd u=some l.length:=by rw[ho.len,UB,b9]
 have eg:=v.short p h3
 simp(disch:=omega)only[↓wr,seval,wq,ni,t1,t2,t5,t6,cc]
 apply ai.dec<;>intro hc
 rotate_left
 .simp(disch:=omega)only[↓wr,seval,wq,t5]
  rw[zN (by omega)] at O
  exact⟨S,ho,by rw[Z,O],C⟩
 have W:S[i]?=some (S[i]'(by omega)):=Uv (by omega)
 have an:=UC (show i < S.length by omega)
 generalize S[i]'(by omega)=s at W an
 have X:=C s an
 have hi:l[i]?=some s.n:=by rw[<-Z,Uy,W];rfl
 obtain⟨l1,⟨tl,cf⟩,_⟩:=vS p v hi
 have w:gS g a (90000 - (i+1)) (i+1) (fu g a l s.n)=ct g a:=by
  rw[<-O,show 90000 - i=90000 - (i+1)+1 by omega,gS,hi]
 have A:i+1<=(fu g a l s.n).length:=by rw[cf,UY];omega
 obtain⟨n,aq,hH⟩:=ho.sl (by simp;omega)
 rw[UB] at aq
 have ar:(S.map dc).getD i []=dc s:=by simp[Uu,W]
 have j:=v.nd s.n (UL hi)
 have f:=p.has j.lt j.it
 obtain⟨⟨ei,dv⟩,ek,eH⟩:=And.intro f.1 f.2
 have e0:=v.len i s.n hi
 have e1:=j.small p
 obtain⟨⟨a1,a6,e2⟩,⟨a7,a8,e3⟩⟩:=And.intro X.a.er X.b.er
 have ch:Fh g s.n.it=bw g s.n.it:=Uz (AR.2 ⟨hr,f⟩)
 have D:=MH g hg s.n.it ⟨by unfold bO;omega,by unfold bO;omega⟩
 rw[ch] at D
 simp only[af,encS,bA] at D
 simp only[dc] at ar
 simp(disch:=omega)only[↓wr,seval,wq,t1,t2,t5,t6,aq,hH,ar,a1,a6,a7,a8,af,encS]
 refine⟨by omega,by first | omega | (simp;omega),λn7 cj=>?_⟩
 rw[set_set]
 have Y:=(bc.one ho).new cj 5 [dc s]
 have c:=Y.is 0 rfl (by simp)
 simp only[dc] at c Y
 generalize View.set H1 n7 (.arr 5 [[gi s.n.st,gi s.n.it.ax,gi s.n.it.dot,s.a,s.b]])=H2 at Y c ⊢
 refine aw.pure D ?_
 cases E:bw g s.n.it with
 | mk y t =>
 rw[E] at D
 cases t with
 | false =>
  have P:fu g a l s.n=l:=by unfold fu;rw[E];rfl
  simp(disch:=omega)only[↓wr,seval,wq,t1,t2,t5,t6]
  rw[P] at l1 w A
  exact aD N (by omega) ⟨l,S,u,A,l1,w,Z,C,Y.own 1 rfl,t1,t2,t5,rfl⟩
 | true =>
  obtain⟨f1,f2⟩:=nt f E
  have P:fu g a l s.n=jd g s.n y g.rules.length (gY l ⟨ia a s.n.st y,⟨s.n.it.ax,s.n.it.dot+1⟩,s.n.ah ++ [y],s.n.be⟩):=by
   unfold fu
   rw[E,Uz rfl]
  rw[P] at l1 w A
  obtain⟨s1,s2,s3,s4⟩:=p.step j.lt j.it E
  obtain⟨_,_,_,_,_,ck⟩:=p.ia s1
  have Q:dI g y=true:=sg K f E
  have cu : -100<=y/\y<=100:=by
   unfold dI at Q
   split at Q <;> simp at Q <;> omega
  have bd:(dd g s.n.it).length<=6:=by
   have:=dD K (r:=s.n.it.ax) ⟨by omega,by omega⟩
   unfold dd
   simp;omega
  have ea:(fX g s.n.it).length<=6:=by
   rw[f1] at bd
   simp only[UE] at bd
   omega
  obtain⟨m1,m2,m3⟩:=BI p v (j.move p E) (by simp only[UY,UE,UU];omega) (by simp only;omega)
  have hle:l.length<=(gY l ⟨ia a s.n.st y,⟨s.n.it.ax,s.n.it.dot+1⟩,s.n.ah ++ [y],s.n.be⟩).length:=by obtain⟨t,ht⟩:=m2;rw[ht];simp
  have cv:=λk hk=>Cy p j E k _ hk m1 (by omega) (by omega)
  have bl:=Nq a B (p.QI h3) s.n.st [y] (by unfold aL;simp)
  rw[ck] at bl
  have cA:=tC s.n.ah [y] (by simp;omega)
  have cC:=tC (fX g s.n.it) s.n.be (by omega)
  have bn:=Bg g (by unfold bO;omega) s.n.it.ax ⟨by omega,by omega⟩
  have cN:cJ 1 (encI (bG g s.n.it.ax)) (some (gi (s.n.it.dot+1))) none=some (encI (fX g s.n.it),.none,[]):=by
   obtain⟨d,hd,cS,cV⟩:=J7 f E
   rw[hd]
   have hlen:d+1<=(bG g s.n.it.ax).length:=by
    have:=congrArg List.length cS
    simp at this;omega
   have:=rG (l:=bG g s.n.it.ax) (k:=d+1) hlen
   rw[cV] at this
   push_cast at this
   exact this
  have br:∀ k:Nat,k < g.rules.length->g.rules[k]?=some (bN g k):=λk hk=>by unfold bN;exact getD_some (by simpa using hk)
  have bs:dU.Ok ⟨⟨ia a s.n.st y,⟨s.n.it.ax,s.n.it.dot+1⟩,s.n.ah ++ [y],s.n.be⟩,encI (s.n.ah ++ [y]),s.b⟩:=⟨.inl rfl,X.b⟩
  have bx:∀ k:Nat,dU.Ok ⟨⟨s.n.st,⟨k,0⟩,s.n.ah,fX g s.n.it ++ s.n.be⟩,s.a,encI (fX g s.n.it ++ s.n.be)⟩:=λk=>⟨X.a,.inl rfl⟩
  simp only[af,encS] at bn
  simp(disch:=omega)only[↓wr,seval,wq,t1,t2,t5,t6,c,af,encS]
  intro n8 F
  have b0:¬ n7=n8:=by rintro rfl;rw[c] at F;simp at F
  have o3:=Y.fresh (o:=.arr 1 [[gi y]]) F
  refine aw.G7 bl (by kernel_rfl) (M _ _) ⟨.tree (lX a),.tree (.val _),Hm (by simp only[View.set,if_true]),trivial⟩ ?_
  simp(disch:=omega)only[↓wr,seval,wq,t1,t2,t5,t6,c,b0]
  intro n9 q
  obtain⟨c3,q⟩:=bU q bR
  have o4:=o3.fresh (n:=n9) (o:=.arr 1 [[gi y]]) (by simp only[View.set,Ux c3];exact q)
  try simp(disch:=omega)only[↓wr,seval,wq,t1,t2,t5,t6]
  refine aw.j0 cA (by kernel_rfl) ⟨X.a.jR,Hm (by simp only[View.set,if_true]),trivial⟩ ?_
  have c4:¬ n7=n9:=by rintro rfl;rw[c] at q;simp at q
  simp(disch:=omega)only[↓wr,seval,wq,t1,t2,t5,t6,c,b0,c4,a7,a8,encI]
  have hm:=HD S _ bs (by omega) u _ (o4.own 1 rfl)
  simp only[dc,encI] at hm
  refine aw.dL (hm.mono ?_)
  clear hm
  rintro r H5 ⟨o5,l5⟩
  have G:=(o4.perm (.swap _ _ _)).left o5 l5
  simp(disch:=omega)only[↓wr,seval,wq,t1,t2,t6]
  refine aV.up g.rules.length (λk T H'=>∃ (I:List dU) (U:V),I.map dU.n=jd g s.n y k (gY l ⟨ia a s.n.st y,⟨s.n.it.ax,s.n.it.dot+1⟩,s.n.ah ++ [y],s.n.be⟩)/\(∀ z∈I,z.Ok)/\bc H' [(U,5,I.map dc),(.sl n7 0 1 5,5,[dc s])] /\
   T 1=bM a/\T 2=.aJ (af g) 0/\T 5=U/\T 6=gi i/\T 7=.ptr n7 0 0/\T 8=gi y/\T 12=gi k) ⟨_,r,by rw[OU,Z];rfl,Ix C bs,G,t1,t2,rfl,t6,rfl,rfl,rfl⟩ ?_
  clear Y o3 o4 o5 G F q c t1 t2 t5 t6
  rintro k k2 T H6 b1 ⟨I,U,J,m,G,t1,t2,t5,t6,t7,t8,t12⟩
  have c:=G.is 1 rfl (by simp)
  simp only[dc] at c
  have L:(¬ k < g.rules.length∨0<=y)->I.map dU.n=jd g s.n y g.rules.length (gY l ⟨ia a s.n.st y,⟨s.n.it.ax,s.n.it.dot+1⟩,s.n.ah ++ [y],s.n.be⟩):=λh=>by
   rw[J]
   rcases h with h | h
   .rw[show k=g.rules.length by omega]
   .have b2:∀ k:Nat,k < g.rules.length->(bN g k).left≠-1 - y:=λk hk e=>by
     have:=K.left _ (UL (br k hk))
     omega
    rw[yh b2 k _ (by omega),yh b2 _ _ (UF _)]
  simp(disch:=omega)only[↓wr,seval,wq,mU,t1,t2,t5,t6,t7,t8,t12,af]
  apply ai.dec<;>intro hc
  rotate_left
  .simp(disch:=omega)only[↓wr,seval,wq,t1,t2,t5,t6,t7,t8,t12]
   exact aD N (by omega) ⟨_,I,U,A,l1,w,L (.inl (by omega)),m,G.own 0 rfl,t1,t2,t5,rfl⟩
  simp(disch:=omega)only[↓wr,seval,wq,t1,t2,t5,t6,t7,t8,t12]
  apply ai.dec<;>intro da
  rotate_left
  .simp(disch:=omega)only[↓wr,seval,wq,t1,t2,t5,t6,t7,t8,t12]
   exact aD N (by omega) ⟨_,I,U,A,l1,w,L (.inr (by omega)),m,G.own 0 rfl,t1,t2,t5,rfl⟩
  have hR:=br k (by omega)
  have db:=K.left _ (UL hR)
  generalize b7:bN g k=R at hR db
  simp(disch:=omega)only[↓wr,seval,wq,t1,t2,t5,t6,t7,t8,t12,af,Uy,hR,UH,aI]
  apply ai.eq<;>intro e
  .simp(disch:=omega)only[↓wr,seval,wq,t1,t2,t5,t6,t7,t8,t12,af,encS,c]
   refine aw.pure bn ?_
   simp(disch:=omega)only[↓wr,seval,wq,t1,t2,t5,t6,t7,t8,t12,c,cN]
   refine aw.j0 cC (by kernel_rfl) ⟨.tree (bQ _),X.b.jR,trivial⟩ ?_
   simp(disch:=omega)only[↓wr,seval,wq,t1,t2,t5,t6,t7,t8,t12,c,a1,a6,encI]
   obtain⟨r1,_,_⟩:=cv k (by omega)
   have dj:=r1.short p h3
   rw[<-J,UB] at dj
   have hm:=HD I _ (bx k) (by omega) U _ (G.own 0 rfl)
   simp only[dc,encI] at hm
   refine aw.dL (hm.mono ?_)
   clear hm
   rintro r7 H7 ⟨o7,l7⟩
   simp(disch:=omega)only[↓wr,seval,wq,t1,t2,t5,t6,t7,t8,t12]
   refine aD b1 (by omega) ⟨_,r7,?_,Ix m (bx k),G.left o7 l7,t1,t2,rfl,t6,t7,t8,rfl⟩
   rw[OU,J,jd,Uz (by rw[b7];exact e)]
  .simp(disch:=omega)only[↓wr,seval,wq,t1,t2,t5,t6,t7,t8,t12]
   refine aD b1 (by omega) ⟨I,U,?_,m,G,t1,t2,t5,t6,t7,t8,rfl⟩
   rw[J,jd,Ux (by rw[b7];exact e)]
def nB:SC :=
 ae [ae [ab [aa 6 5,aa 7 0,aM 8 7,aR 9 .lss 6 8],bX 9 (.exit 0)],.block 1 (ae [ab [aa 12 0,aa 13 5,aO 14 5 12 13,al 15 0 14,ak 16 15,aa 17 1,aR 18 .eql 16 17],ba 18 (ae [ab [aa 19 0,aa 20 5,aO 21 5 19 20,aS 22 5 21,cg 5 4 22],.ret])]),ab [aa 10 5,aG 11 .add 10 1,aa 5 11]]
def oU:SF:=⟨ae [ab [((some 4),.op (.alloc [(.val (.int .i64 0)),(.val (.int .i64 0)),(.val (.int .i64 0)),(.emp 1),(.emp 1)]))],ae [ab [aN 5 0],bY 0 nB],ab [((some 23),.op (.build [(.val (.int .i64 0)),(.val (.int .i64 0)),(.val (.int .i64 0)),(.emp 1),(.emp 1)] [])),cg 5 4 23],.ret],
 [.cell 4 (some 5)],24⟩
theorem uq:aH Tryz.prog 63 []=some oU:=by kernel_rfl
def ng:SC :=
 ae [ae [ab [aa 25 8,aa 26 4,aM 27 26,aR 28 .lss 25 27],bX 28 (.exit 0)],.block 1 (ae [ab [aa 31 6,aa 32 8,aX 33 63 [31,32],((some 9),.op (.alloc [(.val (.int .i64 0)),(.val (.int .i64 0)),(.val (.int .i64 0)),(.emp 1),(.emp 1)])),cg 5 9 33],.region true [⟨none,[aS 35 4 1,al 36 3 9,ak 37 36,aS 38 4 1,al 39 1 9,al 40 0 39,ak 41 40,aX 42 66 [38,41],al 43 1 9,al 44 1 43,ak 45 44,((some 46),.op (.slice 1 (.tmp 42) (some (.tmp 45)) none)),al 47 4 9,ak 48 47,aX 49 65 [46,48],aX 50 65 [37,49],aX 51 34 [35,50],aa 34 51,du 52 0 34,du 53 1 34,aa 10 52,aa 11 53]⟩],ae [ab [aa 54 11,aG 55 .neq 54 0],ba 55 (ae [ab [aa 56 11,bI 2 1,aa 3 56],.ret])],ab [aS 58 4 1,al 59 3 9,ak 60 59,aX 61 34 [58,60],aa 57 61,du 62 0 57,du 63 1 57,aa 12 62,aa 13 63],ab [aa 64 7,aa 65 8,aa 66 12,aM 67 66,aa 68 10,((some 69),.op (.build [(.val (.int .i64 0)),(.val (.int .i64 0)),(.emp 1)] [(0,1,(.tmp 65)),(1,1,(.tmp 67)),(2,1,(.tmp 68))])),((some 70),.op (.bP 1 3 [(.val (.int .i64 0)),(.val (.int .i64 0)),(.emp 1)] [(0,(.tmp 69))])),fk 71 3 40 64 70,aa 7 71]]),ab [aa 29 8,aG 30 .add 29 1,aa 8 30]]
def po:SF:=⟨ae [ab [cw 1 0,bI 2 1,aN 3 0],ab [aS 15 4 1,aX 16 32 [15],aa 14 16,du 17 0 14,du 18 1 14,aa 4 17,aa 5 18],ae [ab [aa 19 5,aG 20 .neq 19 0],ba 20 (ae [ab [aa 21 5,bI 2 1,aa 3 21],.ret])],ab [aS 22 4 1,aa 23 4,aX 24 64 [22,23],aa 6 24],ab [bI 7 1],ae [ab [aN 8 0],bY 0 ng],ab [aa 72 7,aa 2 72,aN 3 0],.ret],
 [.tmp 2,.tmp 3],73⟩
theorem tV:aH Tryz.prog 29 [1]=some po:=by kernel_rfl
def nQ:SC :=
 ae [ae [ab [aa 11 5,aa 12 0,aM 13 12,aR 14 .lss 11 13],bX 14 (.exit 0)],.block 1 (ae [.region false [⟨none,[aa 17 0,aa 18 5,aO 19 3 17 18,al 20 0 19,ak 21 20,aa 22 1,aa 23 5,aO 24 3 22 23,al 25 0 24,ak 26 25,aR 27 .neq 21 26,aa 28 27]⟩,⟨(some (28,false)),[aa 29 0,aa 30 5,aO 31 3 29 30,al 32 1 31,ak 33 32,aa 34 1,aa 35 5,aO 36 3 34 35,al 37 1 36,ak 38 37,aR 39 .neq 33 38]⟩,⟨none,[cM 40 28 39,aa 41 40]⟩,⟨(some (41,false)),[aa 42 0,aa 43 5,aO 44 3 42 43,al 45 2 44,ak 46 45,aa 47 1,aa 48 5,aO 49 3 47 48,al 50 2 49,ak 51 50,aX 52 26 [46,51],c7 53 52]⟩,⟨none,[cM 54 41 53]⟩],ba 54 (ae [ab [bq 4 false],.ret])]),ab [aa 15 5,aG 16 .add 15 1,aa 5 16]]
def qt:SF:=⟨ae [ab [bq 4 false],ae [ab [aa 6 0,aM 7 6,aa 8 1,aM 9 8,aR 10 .neq 7 9],ba 10 (ae [ab [bq 4 false],.ret])],ae [ab [aN 5 0],bY 0 nQ],ab [bq 4 true],.ret],
 [.tmp 4],55⟩
theorem uP:aH Tryz.prog 30 []=some qt:=by kernel_rfl
theorem Ij {l:List bB} {i k:Nat} {x:bB} (h:l[k]?=some x):c9 (l.drop k) i=if x.st=i then x else c9 (l.drop (k+1)) i:=by
 obtain⟨hk,he⟩:=UI.1 h
 unfold c9
 rw[Vg hk,he,Wm]
 by_cases e:x.st=i
 .simp[e]
 .simp[e]
theorem Lj (S:List dU) (v:∀ y∈S,y.Ok) (O:S.length<=90000) (i:Nat) (hi:∃ y∈S.map dU.n,y.st=i) (u:V) (H:View) (w:aK H u 5 (S.map dc)) :
  av Tryz.prog 63 [u,gi i] H λr H'=>(∃ y∈S,r=.agg (dc y)/\y.n=c9 (S.map dU.n) i)/\∀ id,H id≠.dead->H' id=H id:=by
 have x:cd u=some S.length:=by rw[w.len,UB]
 refine av.of mixed uq ?_
 simp(disch:=omega)only[↓wr,seval,wq,oU]
 intro j l
 have A:∀ {o:dB} (id:Nat),H id≠.dead->(H.set j o) id=H id:=λ{o} id c=>by
  have:¬ id=j:=by rintro rfl;exact c l
  simp only[View.set,Ux this]
 refine aV.up S.length (λk T H'=>c9 ((S.map dU.n).drop k) i=c9 (S.map dU.n) i/\(∃ y∈(S.map dU.n).drop k,y.st=i)/\H' j=.arr 5 [[gi 0,gi 0,gi 0,.emp 1,.emp 1]]/\(∀ id,H id≠.dead->H' id=H id)/\T 0=u/\T 1=gi i/\T 4=.ptr j 0 0/\T 5=gi k)
  ⟨rfl,hi,by simp[View.set],λid c=>A id c,rfl,rfl,rfl,rfl⟩ ?_
 rintro k P T H1 hk ⟨J,hex,K,d,t0,t1,t4,t5⟩
 have B:aK H1 u 5 (S.map dc):=w.keep λid c=>d id (by rw[(w.live c).1];simp)
 simp(disch:=omega)only[↓wr,seval,wq,nB,t0,t1,t4,t5,x]
 apply ai.dec<;>intro L
 rotate_left
 .exfalso
  rw[US (by simp;omega)] at hex
  obtain⟨y,m,_⟩:=hex
  simp at m
 have m:S[k]?=some (S[k]'(by omega)):=Uv (by omega)
 have f:=UC (show k < S.length by omega)
 generalize S[k]'(by omega)=y at m f
 have p:(S.map dU.n)[k]?=some y.n:=by rw[Uy,m];rfl
 have q:=Ij (i:=i) p
 obtain⟨n,g,hH⟩:=B.sl (by simp;omega)
 rw[UB] at g
 have h:(S.map dc).getD k []=dc y:=by simp[Uu,m]
 simp only[dc] at h
 have s:=v y f
 obtain⟨⟨C,D,M⟩,⟨E,F,N⟩⟩:=And.intro s.a.er s.b.er
 simp(disch:=omega)only[↓wr,seval,wq,t0,t1,t4,t5,g,hH,h]
 refine⟨by omega,by first | omega | (simp;omega),?_⟩
 apply ai.eq<;>intro e
 .simp(disch:=omega)only[↓wr,seval,wq,t0,t1,t4,t5,g,hH,h,K,C,D,E,F]
  refine⟨by omega,by first | omega | (simp;omega),?_⟩
  refine⟨⟨y,f,rfl,?_⟩,λid c=>?_⟩
  .rw[<-J,q,Uz (by omega)]
  .have:¬ id=j:=by rintro rfl;exact c l
   simp only[Ux this]
   exact d id c
 .simp(disch:=omega)only[↓wr,seval,wq,t0,t1,t4,t5]
  refine aD hk (by omega) ⟨?_,?_,K,d,t0,t1,t4,rfl⟩
  .rw[<-J,q,Ux (by omega)]
  .obtain⟨z,t,G⟩:=hex
   obtain⟨I,he⟩:=UI.1 p
   rw[Vg I,he] at t
   rcases UO.1 t with rfl | t
   .omega
   .exact⟨z,t,G⟩
theorem KR (g:ag) (C:g.Ok):az Tryz.prog 29 [.agg (af g)] (tg (jq g)):=by
 refine az.of (dO g) ?_
 have hB:=(Kq g C).pure
 have E:cd (bM (bS g).1)=some (bS g).1.length:=by simp[bM,cd]
 refine av.of mixed tV ?_
 simp only[af,encS] at hB
 simp(disch:=omega)only[↓wr,seval,wq,po,af,encS]
 refine aw.pure hB ?_
 simp(disch:=omega)only[↓wr,seval,wq]
 unfold jq
 apply ai.ne<;>intro h
 .rw[Uz h]
  simp(disch:=omega)only[↓wr,seval,wq]
  intro F _
  exact(kb (.emp 1)).K7
 rw[Ux (by omega)]
 obtain⟨hr,r,c⟩:=y9 h
 have G:=zB hr
 generalize (bS g).1=a at *
 have aq:=iY r.gU
 obtain⟨n1,_,_⟩:=wX r c
 have ar:=n1.short r c
 have s:=Lr g C G a r c (λ_=>.dead)
 simp only[af,encS] at s
 simp(disch:=omega)only[↓wr,seval,wq,af,encS]
 refine aw.dL (s.mono ?_)
 rintro u H1 ⟨S,ho,I,t⟩
 have a1:S.length=(ct g a).length:=by rw[<-I,UB]
 simp(disch:=omega)only[↓wr,seval,wq]
 refine aV.up a.length (λi T H'=>∃ (v:V),(dp g a i).2=0/\bc H' [(v,3,(dp g a i).1.map km),(u,5,S.map dc)]/\T 1=.aJ (af g) 0/\T 4=bM a/\T 6=u/\T 7=v/\T 8=gi i) ⟨.emp 1,rfl,(bc.one ho).emp,rfl,rfl,rfl,rfl,rfl⟩ ?_
 clear ho
 rintro i k T H hk ⟨v,he,o,t1,t4,t6,t7,t8⟩
 simp(disch:=omega)only[↓wr,seval,wq,ng,t1,t4,t6,t7,t8,E]
 apply ai.dec<;>intro hc
 .have hi:i < a.length:=by omega
  obtain⟨f1,f2,f3⟩:=AH r c hi
  obtain⟨D,p2,p3,p4,p5,p6⟩:=xG r c hi
  have f:dp g a (i+1)=if (dw g ((ey g a i).1 ++ (ey g a i).2)).2≠0 then ([],(dw g ((ey g a i).1 ++ (ey g a i).2)).2) else ((dp g a i).1 ++ [AY g a i],0):=by
   rw[dp,Ux (by rw[he];simp)]
  have p:AY g a i=⟨i,((dw g (ey g a i).1).1.length:Int),(dw g ((ey g a i).1 ++ (ey g a i).2)).1⟩:=rfl
  simp(disch:=omega)only[↓wr,seval,wq,t1,t4,t6,t7,t8]
  refine aw.dL ((Lj S t (by omega) i ⟨_,by rw[I];exact f1,f2⟩ u H (o.own 1 rfl)).mono ?_)
  rintro _ H2 ⟨⟨y,J,rfl,q⟩,K⟩
  rw[I] at q
  have o2:=o.stay K
  have m:=t y J
  obtain⟨⟨L,M,a6⟩,⟨N,O,a7⟩⟩:=And.intro m.a.er m.b.er
  have P:ey g a i=(y.n.ah,dd g y.n.it ++ y.n.be):=by rw[q];rfl
  rw[<-q] at D p2 p3 p4 p5 p6
  rw[P] at f p
  simp only at f p
  have Q:=tC (dd g y.n.it) y.n.be (by omega)
  have R:=tC y.n.ah (dd g y.n.it ++ y.n.be) (by simp;omega)
  have w:=Bg g (by unfold bO;omega) y.n.it.ax D.1
  have U:cJ 1 (encI (bG g y.n.it.ax)) (some (gi y.n.it.dot)) none=some (encI (dd g y.n.it),.none,[]):=by
   obtain⟨d,hd⟩:∃ d:Nat,y.n.it.dot=d:=⟨y.n.it.dot.toNat,by have:=D.2;omega⟩
   have h2:=D.2
   unfold dd
   rw[hd] at h2 ⊢
   rw[U8]
   exact rG (by omega)
  have z:=(D0 g C (y.n.ah ++ (dd g y.n.it ++ y.n.be)) (by simp;omega) p6).pure
  have A:=D0 g C y.n.ah (by omega) p5
  have a8:=rK (g:=g) (a:=a) i
  have W:=λh=>(Hg (g:=g) (u:=y.n.ah) (v:=dd g y.n.it ++ y.n.be) h).1
  simp only[af,encS,Ag] at z A
  simp only[af,encS] at w
  generalize dw g (y.n.ah ++ (dd g y.n.it ++ y.n.be))=X at *
  generalize dw g y.n.ah=wx at *
  simp(disch:=omega)only[↓wr,seval,wq,dc,L,M,N,O]
  intro n9 Y
  have o3:=o2.fresh (n:=n9) (o:=.arr 5 [dc y]) Y
  try rw[set_set]
  simp(disch:=omega)only[↓wr,seval,wq,t1,t4,t6,t7,t8,af,encS]
  refine aw.pure w ?_
  simp(disch:=omega)only[↓wr,seval,wq,t1,t4,t6,t7,t8,af,encS,U]
  refine aw.j0 Q (by kernel_rfl) ⟨.tree (bQ _),m.b.jR,trivial⟩ ?_
  simp(disch:=omega)only[↓wr,seval,wq,t1,t4,t6,t7,t8,af,encS]
  refine aw.j0 R (by kernel_rfl) ⟨m.a.jR,.tree (bQ _),trivial⟩ ?_
  simp(disch:=omega)only[↓wr,seval,wq,t1,t4,t6,t7,t8,af,encS]
  refine aw.pure z ?_
  simp(disch:=omega)only[↓wr,seval,wq,t1,t4,t6,t7,t8,af,encS]
  apply ai.ne<;>intro h1
  .rw[Uz h1] at f
   simp(disch:=omega)only[↓wr,seval,wq]
   intro F _
   rw[Co (i:=i+1) (by rw[f];exact h1) (by omega),f]
   exact(kb (.emp 1)).K7
  rw[Ux (by omega)] at f
  have h2:wx.2=0:=W (by omega)
  simp(disch:=omega)only[↓wr,seval,wq,t1,t4,t6,t7,t8,af,encS]
  refine aw.j0 A (by kernel_rfl) ⟨.tree (bZ _ (cz g)),m.a.jR,trivial⟩ ?_
  simp(disch:=omega)only[↓wr,seval,wq,t1,t4,t6,t7,t8,encI]
  intro n10 l
  obtain⟨B,l⟩:=bU l bR
  have o4:=o3.fresh (n:=n10) (o:=.arr 3 [[gi i,gi wx.1.length,encI X.1]]) (by
   simp only[View.set,Ux B]
   first | exact l | exact(bU l bR).2)
  simp(disch:=omega)only[↓wr,seval,wq,bH]
  refine cx (es:=(dp g a i).1.map km) o4 (by simp[aF]) (by unfold aB;simp;omega) (by unfold aB;simp;omega) ?_
  intro u5 H5 o5 l5
  simp(disch:=omega)only[↓wr,seval,wq,t1,t4,t6,t8]
  refine aD hk hi ⟨u5,by rw[f],?_,t1,t4,t6,rfl,rfl⟩
  rw[f,p,UT]
  exact o5
 .obtain rfl:i=a.length:=by omega
  simp(disch:=omega)only[↓wr,seval,wq,t7]
  intro F Z
  have an:=cm.own (o.own 0 rfl) (λe he v Z=>by
   obtain⟨x,_,rfl⟩:=U0.1 he
   exact sw x v Z) F Z
  unfold tg
  rw[he]
  exact .aY _ _ rfl λj Q=>by
   match j,Q with
   | 0,_=>exact an
   | 1,_=>exact .tree _ (.val _)
theorem QT (l:List rF):Tree (.aQ (l.map km)):=eM _ _ λx _=>sw x
theorem NK (l:List rF) (d:aL l) (hw:∀ x∈l,aL x.word):az Tryz.prog 30 [.aQ (l.map km),.aQ (l.map km)] (gb true):=by
 unfold aL at d
 refine az.val (by
  intro v c;simp at c;subst c;exact QT l) λH=>?_
 refine av.of mixed uP ?_
 simp(disch:=omega)only[↓wr,seval,wq,qt]
 refine ai.ne (λh=>absurd rfl h) (λ_=>?_)
 simp(disch:=omega)only[↓wr,seval,wq]
 refine aV.up l.length (λi T H'=>T 0=.aQ (l.map km)/\T 1=.aQ (l.map km)/\T 5=gi i) ⟨rfl,rfl,rfl⟩ ?_
 rintro i k T H' hk ⟨t0,t1,t5⟩
 simp(disch:=omega)only[↓wr,seval,wq,nQ,t0,t1,t5]
 apply ai.dec<;>intro e
 .have b:l[i]?=some (l[i]'(by omega)):=Uv (by omega)
  have a:=UC (show i < l.length by omega)
  generalize l[i]'(by omega)=x at b a
  have hi:=Iz x.word x.word (hw x a)
  rw[Wh] at hi
  simp only[encI] at hi
  simp(disch:=omega)only[↓wr,seval,wq,t0,t1,t5,Uy,b,UH,km]
  repeat' (first | (refine ai.ne (λh=>absurd rfl h) (λ_=>?_))|(refine aw.pure hi ?_) | simp(disch:=omega)only[↓wr,seval,wq,t0,t1,t5,Uy,b,UH,km,encI])
  exact aD hk (by omega) ⟨t0,t1,rfl⟩
 .simp(disch:=omega)only[↓wr,seval,wq]
def Pt (g:ag) (s:Int) (n:Nat) (o:List aE):List aE:=(List.range n).foldl (λo (k:Nat)=>if (bN g k).left = -1 - s then en o ⟨k,0⟩ else o) o
def F7 (g:ag) (p:List aE) (x:aE):List aE:=if (bw g x).2=true/\(bw g x).1 < 0 then Pt g (bw g x).1 g.rules.length p else p
def Bp (g:ag) (l:List aE):List aE:=iter (λo=>o.foldl (F7 g) o) g.rules.length l
def RV (g:ag) (l o:List aE):Bool:=l.all (λx=>decide (x∈o)) && o.all λx=>!(bw g x).2 || decide (0<=(bw g x).1) || (List.range g.rules.length).all λ(k:Nat)=>!decide ((bN g k).left = -1 - (bw g x).1) || decide ((⟨k,0⟩:aE)∈o)
def FU (g:ag) (l o:List aE):Prop:=cb o/\∀ x∈o,mF g l x
theorem JG {g:ag} {k:Nat} (h:k < g.rules.length):g.rules[k]?=some (bN g k):=by unfold bN;rw[U8];exact getD_some h
theorem IJ {g:ag} {l:List aE} {x:aE} {s:Int} (c:mF g l x) (d:bw g x=(s,true)) (e:s < 0):∀ (n:Nat) (o:List aE),n<=g.rules.length->FU g l o->FU g l (Pt g s n o)
 | 0,_,_,h=>h
 | n+1,o,f,h=>by
  have a:=IJ c d e n o (by omega) h
  unfold Pt at a ⊢
  rw[V1,VT]
  simp only[Vf,Wi]
  split
  .rename_i i
   refine⟨od a.1,λy b=>?_⟩
   rcases iR.1 b with rfl | b
   .exact .step c d e (JG (by omega)) i
   .exact a.2 y b
  .exact a
theorem zK {g:ag} {l:List aE} : ∀ (q o:List aE),(∀ x∈q,mF g l x)->FU g l o->FU g l (q.foldl (F7 g) o)
 | [],_,_,h=>h
 | x :: q,o,a,h=>by
  rw[Vf]
  refine zK q _ (λy c=>a y (by simp[c])) ?_
  unfold F7
  split
  .rename_i b
   exact IJ (a x (by simp)) (Prod.ext rfl b.1) b.2 _ _ (UF _) h
  .exact h
theorem CA {α:Type} {p:α->Prop} {f:α->α} (h:∀ x,p x->p (f x)):∀ (n:Nat) (x:α),p x->p (iter f n x)
 | 0,_,a=>a
 | n+1,x,a=>CA h n (f x) (h x a)
theorem Qm {g:ag} (i:g.cX) {l:List aE} (j:cb l) (m:∀ x∈l,cq g x) (h:RV g l (Bp g l)=true):cK g l=Bp g l:=by
 have d:FU g l (Bp g l):=CA (λo e=>zK o o e.2 e) _ l ⟨j,λx b=>.base b⟩
 simp only[RV,UJ,U3,UN] at h
 refine Al i m d.1 d.2 h.1 λx b s k R n f hk p=>?_
 have h1:=h.2 x b
 obtain⟨a,q⟩:=UI.1 hk
 rw[JG a] at hk
 simp only[Uw] at hk
 simp only[n,Wf,Wn,Wc,UN,U3,VC,Wd,Vz] at h1
 rcases h1 with h1 | h1
 .omega
 .rcases h1 k a with c | c
  .exact absurd (by rw[hk];exact p) c
  .exact c
def Fe (g:ag) (at_:Nat) (out:List aP):List aP:=(List.range (g.au.length+g.aj.length)).foldl (cU g (Bp g (out.getD at_ bJ).bj) at_) out
def E8 (g:ag):Nat->Nat->List aP->Option (List aP)
 | 0,_,_=>none
 | f+1,at_,out=>if at_ < out.length then
   (if RV g (out.getD at_ bJ).bj (Bp g (out.getD at_ bJ).bj)=true/\(Fe g at_ out).length<=300 then E8 g f (at_+1) (Fe g at_ out) else none)
  else some out
theorem GJ {g:ag} (b:g.cX):∀ (f at_:Nat) (out a:List aP),dH g at_ 0 out->E8 g f at_ out=some a->∀ k:Nat,f<=k->eZ g k at_ out=(a,0)
 | 0,_,_,_,_,h,_,_=>by simp[E8] at h
 | f+1,at_,out,a,l,h,k,hk=>by
  obtain⟨j,rfl⟩:∃ j,k=j+1:=⟨k - 1,by omega⟩
  rw[E8] at h
  rw[eZ]
  split at h
  .rename_i c
   rw[Uz c]
   split at h
   .rename_i m
    have hm:=UL (getD_some (d:=bJ) c)
    have i:=l.bj _ hm
    have e:tS g at_ out (g.au.length+g.aj.length)=Fe g at_ out:=by
     unfold tS Fe
     rw[Qm b i.1 i.2.2 m.1]
    have hr:=dH.row (l.lO b c).1 (l.lO b c).2 l (g.au.length+g.aj.length) (by have:=b.au;have:=b.aj;omega)
    rw[show (List.range (g.au.length+g.aj.length)).foldl (cU g (cK g (out.getD at_ bJ).bj) at_) out=tS g at_ out (g.au.length+g.aj.length) from rfl] at hr
    rw[e] at hr ⊢
    rw[Ux (by omega)]
    exact GJ b f (at_+1) _ a hr.1.next h j (by omega)
   .simp at h
  .rename_i c
   rw[Ux c]
   simp only[Uw] at h
   rw[h]
def K0:List aP:=[⟨[⟨-1,0⟩],[⟨0,1⟩,⟨-1,2⟩]⟩,⟨[⟨0,1⟩],[⟨0,1⟩,⟨-1,3⟩]⟩,⟨[⟨-1,1⟩],[]⟩,⟨[⟨0,2⟩],[]⟩]
theorem Sa:bS iO=(K0,0):=by
 have hr:isRed iO=true:=by kernel_rfl
 unfold bS
 rw[Uz hr]
 exact GJ (rM hr) 10 0 dM K0 kW (by kernel_rfl) 302 (by omega)
theorem Ub:bS rl=([],1):=by
 unfold bS
 rw[Ux (by rw[show isRed rl=false by kernel_rfl];simp)]
theorem SQ:CL iO 1=(([0],[-1]),0):=by
 unfold CL
 rw[Sa]
 have h:ey iO K0 1=([0],[-1]):=by kernel_rfl
 exact Prod.ext h rfl
theorem SE:CL iO 4=(([],[]),11):=by
 unfold CL
 rw[Sa]
 rfl
def Ly:List rF:=[⟨0,0,[]⟩,⟨1,1,[0]⟩,⟨2,0,[]⟩,⟨3,1,[0]⟩]
theorem R3:jq iO=(Ly,0):=by
 unfold jq
 rw[Sa]
 have h:dp iO K0 4=(Ly,0):=by kernel_rfl
 exact h
theorem RW:jq rl=([],1):=by
 unfold jq
 rw[Ub]
 rfl
noncomputable def Rl:List (FuncId × DF):=vB Tryz.prog [(23,[]),(26,[])]
theorem LF:p0 Tryz.prog Rl:=sD _ _
noncomputable def QJ:List Dg:=[(44,[GN QN],zh iO,false),(24,[.agg (af iO),gi 1],GH (([0],[-1]),0),true),(24,[.agg (af iO),gi 4],GH (([],[]),11),true),
 (28,[.agg (af iO)],tg (Ly,0),true),(28,[.agg (af rl)],tg ([],1),true)]
theorem P2:∀ x∈QJ,x.Ok Tryz.prog:=by
 intro x a
 simp only[QJ,UO,List.not_mem_nil,or_false] at a
 rcases a with rfl | rfl | rfl | rfl | rfl
 .exact⟨by kernel_rfl,.inl SY⟩
 .exact⟨by kernel_rfl,SQ ▸ Jy iO mY.1 mY.2 1⟩
 .exact⟨by kernel_rfl,SE ▸ Jy iO mY.1 mY.2 4⟩
 .exact⟨by kernel_rfl,R3 ▸ xQ iO mY.1 mY.2⟩
 .exact⟨by kernel_rfl,RW ▸ xQ rl RL ⟨by decide⟩⟩
theorem Lf:az Tryz.prog 23 [] (gb true) :=
 (oA mixed LF (F8 P2) (by simp) (by kernel_rfl)).pure
def kn:SF:=⟨ae [ab [cw 1 0,bq 2 false],ae [ab [aX 8 23 [],c7 9 8],ba 9 (ae [ab [bq 2 false],.ret])],ae [ab [aS 10 4 1,aX 11 14 [10]],ba 11 (ae [ab [bq 2 true],.ret])],ab [aS 12 4 1,aX 13 27 [12],((some 3),.op (.alloc [(.emp 1),(.emp 1),(.emp 1),(.val (.int .i64 0))])),cg 4 3 13],ab [aS 15 4 3,aX 16 28 [15],aa 14 16,du 17 0 14,du 18 1 14,aa 4 17,aa 5 18],ab [aS 20 4 1,aX 21 29 [20],aa 19 21,du 22 0 19,du 23 1 19,aa 6 22,aa 7 23],.region false [⟨none,[aa 24 4,aa 25 6,aX 26 30 [24,25],aa 27 26]⟩,⟨(some (27,true)),[aa 28 5,aa 29 7,aR 30 .eql 28 29]⟩,⟨none,[eu 31 27 30,aa 32 31]⟩,⟨(some (32,true)),[aS 33 4 3,aS 34 4 1,aX 35 31 [33,34]]⟩,⟨none,[eu 36 32 35,aa 2 36]⟩],.ret],
 [.tmp 2],37⟩
theorem pK:aH Tryz.prog 6 [1]=some kn:=by kernel_rfl
theorem GQ (g:ag):(jq g).1.length<=300/\∀ x∈(jq g).1,x.word.length<=60:=by
 have key:∀ a i,∀ x∈(dp g a i).1,x.word.length<=60:=by
  intro a i
  induction i with
  | zero=>simp[dp]
  | succ i c =>
   rw[dp]
   split
   .exact c
   .split
    .simp
    .intro x b
     rcases UR.1 b with b | b
     .exact c x b
     .simp at b
      subst b
      exact(Ir (g:=g) _).2
 unfold jq
 split
 .simp
 .rename_i h
  obtain⟨_,e,d⟩:=y9 (Decidable.not_not.1 h)
  have:=rK (g:=g) (a:=(bS g).1) (bS g).1.length
  exact⟨by omega,key _ _⟩
theorem Dn (g:ag) (a:g.Ok):az Tryz.prog 6 [.agg (af g)] (gb true):=by
 refine az.val (dO g) λH=>?_
 refine av.of mixed pK ?_
 simp(disch:=omega)only[↓wr,seval,wq,kn,af,encS]
 refine aw.pure Lf ?_
 simp(disch:=omega)only[↓wr,seval,wq,af,encS]
 refine aw.pure (O9 g) ?_
 simp(disch:=omega)only[↓wr,seval,wq]
 apply ai.split<;>intro e
 .simp(disch:=omega)only[↓wr,seval,wq]
 have c:=(Nv g (KN e)).pure
 have h1:=xQ g a (Ip e)
 have d:=KR g a
 obtain⟨k,f⟩:=GQ g
 have i:=NK (jq g).1 (by unfold aL;omega) (λx j=>by have:=f x j;unfold aL;omega)
 have b:=D7 g g a
 rw[Wb (rfl:g=g)] at b
 generalize jq g=x at *
 simp only[af,encS] at c h1 d b
 simp(disch:=omega)only[↓wr,seval,wq,af,encS]
 refine aw.pure c ?_
 simp(disch:=omega)only[↓wr,seval,wq,af,encS]
 intro n l
 refine aw.pure h1 ?_
 simp(disch:=omega)only[↓wr,seval,wq,tg,af,encS]
 refine aw.pure d ?_
 simp(disch:=omega)only[↓wr,seval,wq,tg,af,encS]
 refine aw.pure i ?_
 simp(disch:=omega)only[↓wr,seval,wq,af,encS]
 refine ai.eq (λ_=>?_) (λh=>absurd rfl h)
 simp(disch:=omega)only[↓wr,seval,wq,af,encS]
 refine aw.pure b ?_
 simp(disch:=omega)only[↓wr,seval,wq]
end Gv
