/-
  Part 14 of the proof: what the machine does and what the functions answer.
  Conditions: those that each lemma names.
-/
import Derived.Test.YtiophifnkakjgaaGreatSGzC5M
set_option linter.unusedSimpArgs false
set_option linter.unusedVariables false
set_option maxRecDepth 100000
set_option maxHeartbeats 20000000
namespace Gv
noncomputable section
open Go Go.Proofs
def iv:SC:=
 ai [ag [aS 10 .lss 9 8],bQ 10 (.exit 0),.block 1 (ai [ag [aK 11 1 7 9,au 12 11,af 5 12],ai [ag [af 13 5,aH 14 .geq 13 0],aX 14 (ai [ag [af 15 0,af 16 0,fO 17 16,aw 18 6 17,au 19 18,af 20 5,((some 21),.op (.bO 1 1 [(.val (.int .i64 0))] [(0,(.tmp 20))])),fP 22 1 8 19 21,fO 23 15,aw 24 6 23,cz 1 24 22],.exit 1])],ag [af 25 0,fO 26 25,aw 27 4 26,au 28 27,af 29 5,((some 30),.op (.arith .sub (.val (.val (.int .i64 (-1)))) (.tmp 29))),aK 31 4 28 30,aw 32 0 31,au 33 32,af 6 33],ag [af 34 0,af 35 0,fO 36 35,aw 37 5 36,au 38 37,af 39 6,((some 40),.op (.bO 1 1 [(.val (.int .i64 0))] [(0,(.tmp 39))])),fP 41 1 8 38 40,fO 42 34,aw 43 5 42,cz 1 43 41],ag [af 44 0,af 45 0,fO 46 45,aw 47 0 46,aw 48 2 47,au 49 48,af 50 6,aK 51 3 49 50,aw 52 1 51,au 53 52,aV 54 197 [44,53]]]),ag [aH 55 .add 9 1,af 9 55]]
def lf:SF:=⟨ai [ag [af 7 1,aM 8 7,aT 9 0],bS 0 iv],
 [],56⟩
theorem nB:aJ aa 197 []=some lf:=by kernel_rfl
def kf (g:aj) (r w:V):List V:=[.aZ (g.ax.map dd),.aZ (g.av.map λs=>[gs s]),.aZ (g.rules.map aO),gi g.start,jX (aA g),r,w]
def KI (g:aj) (b:Nat) (R W:List Int) (H:View):Prop:=∃ur uw,bw H [(.sl b 0 1 7,7,[kf g ur uw]),(ur,1,aR R),(uw,1,aR W)]
theorem Lx (g:aj) (hg:g.Ok) (hf:g.c5) (b:Nat):∀(f:Nat) (l:List Int),aI l->(∀x∈l,bp x/\(x<0->-1-x<g.av.length))->C9 (aA g) f l->∀(R W:List Int) (H:View),(R++fp g (aA g) f l).length<=100000->(W++dV g (aA g) f l).length<=2000000 ->
  KI g b R W H->az aa 197 [.ptr b 0 0,encI l] H λ_ H'=>KI g b (R++fp g (aA g) f l) (W++dV g (aA g) f l) H':=by
 intro f
 induction f using Nat.strongRecOn with
 | _ f ih =>
  intro l hl E hu R W H0 F G I
  refine az.of mixed nB ?_
  unfold aI at hl
  simp(disch:=omega)only[↓wr,seval,wq,lf,encI]
  refine aW.up l.length (λi T H'=>KI g b (R++fp g (aA g) f (l.take i)) (W++dV g (aA g) f (l.take i)) H'/\T 0=.ptr b 0 0/\T 7=encI l/\T 8=gi l.length/\T 9=gi i) ⟨by rw[List.take_zero,wi,po,abo,abo];exact I,rfl,rfl,rfl,rfl⟩ ?_
  rintro i k T H hk ⟨⟨J,K,u⟩,t0,t7,t8,t9⟩
  simp(disch:=omega)only[↓wr,seval,wq,iv,t8,t9,encI]
  apply ao.dec<;>intro hc
  .have q:l[i]?=some (l[i]'(by omega)):=aaH (by omega)
   have a:l[i]'(by omega)∈l:=aaP _
   have c:l.take (i+1)=l.take i++[l[i]'(by omega)]:=by rw[aa2,q];rfl
   have j:=SH g f l (i+1)
   have d:=Jb g f l (i+1)
   generalize l[i]'(by omega)=x at q a c
   obtain⟨⟨ab,ae⟩,L⟩:=E x a
   rw[c,j6] at j
   rw[c,gh] at d
   simp only[aa5] at F G j d
   have M:=u.is 0 rfl (by simp)
   simp(disch:=omega)only[↓wr,seval,wq,t7,t9,encI,aaJ,q]
   apply ao.dec<;>intro D
   .rw[ka (show 0<=x from D)] at d
    simp only[aaS,abe] at d
    simp(disch:=omega)only[↓wr,seval,wq,t0,M,kf]
    intro n s
    rw[bE]
    simp(disch:=omega)only[↓wr,seval,wq]
    refine dC ((u.at 2 (by simp)).fresh s) (by simp[aL]) (by unfold aF;simp;omega) (by unfold aF;simp;omega) ?_
    intro w H1 e _
    simp only[abV,abW] at e
    have t:=e.is 1 rfl (by simp)
    have c1:=e.head.cells
    have N:=e.head.dU
    simp(disch:=omega)only[↓wr,seval,wq,t9,t,kf,c1,N]
    have z:=(e.at 1 (by simp)).put (es':=[kf g J w]) rfl rfl
    simp only[abV,abW] at z
    refine aE hk (by omega) ⟨⟨J,w,?_⟩,t0,t7,t8,rfl⟩
    rw[c,j6,gh,qX (show 0<=x from D),ka (show 0<=x from D),abo]
    have O:=z.perm (.cons _ (.swap _ _ _))
    simpa [kf] using O
   .obtain⟨f,rfl⟩:∃f',f=f'+1:=by
     cases f with
     | zero=>have:=Cs hu x a;omega
     | succ f=>exact⟨f,rfl⟩
    obtain⟨Q,Y⟩:=hu x a (by omega)
    obtain⟨Z,r,hi,hr,o,S,_⟩:=vd (f:=f) Q (by push_cast at Y;exact Y)
    have A:=Bt (P:=aA g) (m:=cp x) (by rw[gR];have:=L (by omega);unfold cp;omega)
    have B:=aaV hr
    have al:Z<g.rules.length:=(aaO.1 hr).1
    have C:=hg.aB r B
    rw[pO (by omega),o,hi] at j
    rw[kX (by omega),o] at d
    simp only[aaS] at j
    generalize U:bA (aA g) (cp x)=p at A hi o
    simp(disch:=omega)only[↓wr,seval,wq,t0,M,kf]
    simp(disch:=omega)only[↓wr,seval,wq,t0,M,kf,A,cy,hi]
    intro n s
    rw[bE]
    simp(disch:=omega)only[↓wr,seval,wq]
    refine dC ((u.at 1 (by simp)).fresh s) (by simp[aL]) (by unfold aF;simp;omega) (by unfold aF;simp;omega) ?_
    intro w H1 e _
    simp only[abV,abW] at e
    have t:=e.is 1 rfl (by simp)
    have c1:=e.head.cells
    have N:=e.head.dU
    simp(disch:=omega)only[↓wr,seval,wq,t0,t,kf,c1,N,aO,aaJ,hr,encI]
    have z:=(e.at 1 (by simp)).put (es':=[kf g w K]) rfl rfl
    simp only[abV,abW] at z
    have h:=ih f (by omega) r.right C.2.2.1 (λy hy=>⟨C.2.2.2 y hy,λE=>hf.neg B hy E⟩) S (R++fp g (aA g) (f+1) (l.take i)++[(Z:Int)]) (W++dV g (aA g) (f+1) (l.take i)) _
     (by simp only[aa5,aaS,abe];omega) (by simp only[aa5];omega) ⟨w,K,by simpa using z⟩
    simp only[kf,encI] at h
    refine ay.cw (h.mono ?_)
    rintro v H2 ⟨V,X,O⟩
    simp(disch:=omega)only[↓wr,seval,wq,t9]
    refine aE hk (by omega) ⟨⟨V,X,?_⟩,t0,t7,t8,rfl⟩
    rw[c,j6,gh,pO (by omega),kX (by omega),U,hi,<-hi,o,hi]
    simpa using O
  .rw[aaY (by omega)] at u
   simp(disch:=omega)only[↓wr,seval,wq]
   exact⟨J,K,u⟩
def Bo (H:View) (u:V) (l:List Int):Prop:=u=encI l∨∃(m:Nat) (x:Int),l=[x]/\x<0/\u=.sl m 0 1 1/\H m=.arr 1 [[gi x]]
theorem Bo.kH {H:View} {u:V} {l:List Int} (h:Bo H u l):cq H u (encI l):=by
 rcases h with rfl | ⟨m,x,rfl,_,rfl,hm⟩
 .exact cq.tree (bC l)
 .exact Fg (l:=[x]) hm rfl
theorem Bo.keep {H H':View} {u:V} {l:List Int} (h:Bo H u l) (hk:∀id,H id≠.dead->H' id=H id):Bo H' u l:=by
 rcases h with rfl | ⟨m,x,rfl,a,rfl,hm⟩
 .exact .inl rfl
 .exact .inr ⟨m,x,rfl,a,rfl,by rw[hk m (by rw[hm];simp)];exact hm⟩
theorem Kt (g:aj) (z:g.Ok) (A:g.c5) (b:Nat) (f:Nat) (l:List Int) (S:aI l) (t:∀x∈l,bp x/\(x<0->-1-x<g.av.length)) (hu:C9 (aA g) f l) (R W:List Int) (H:View) (c:(R++fp g (aA g) f l).length<=100000) (d:(W++dV g (aA g) f l).length<=2000000)
  (hw:KI g b R W H) (u:V) (hi:Bo H u l):az aa 197 [.ptr b 0 0,u] H λ_ H'=>KI g b (R++fp g (aA g) f l) (W++dV g (aA g) f l) H':=by
 rcases hi with rfl | ⟨m,x,rfl,U,rfl,hm⟩
 .exact Lx g z A b f l S t hu R W H c d hw
 .obtain⟨⟨X,Y⟩,B⟩:=t x (by simp)
  refine az.of mixed nB ?_
  simp(disch:=omega)only[↓wr,seval,wq,lf]
  refine aW.up 1 (λi T H'=>((i=0/\H'=H)∨(i=1/\KI g b (R++fp g (aA g) f [x]) (W++dV g (aA g) f [x]) H'))/\T 0=.ptr b 0 0/\T 7=.sl m 0 1 1/\T 8=gi 1/\T 9=gi i) ⟨.inl ⟨rfl,rfl⟩,rfl,rfl,rfl,rfl⟩ ?_
  rintro i k T H1 hk ⟨Z,t0,t7,t8,t9⟩
  rcases Z with ⟨rfl,rfl⟩ | ⟨rfl,w⟩
  .obtain⟨ur,J,w⟩:=hw
   have K:=w.is 0 rfl (by simp)
   simp(disch:=omega)only[↓wr,↓reduceIte,wq,Int.reduceNeg,iv,t8,t9]
   refine ao.dec (λ_=>?_) (λh=>absurd h (by decide))
   simp(disch:=omega)only[↓wr,seval,wq,t7,t9,hm]
   refine ao.dec (λh=>absurd h (by omega)) (λ_=>?_)
   obtain⟨f,rfl⟩:∃f',f=f'+1:=by
    cases f with
    | zero=>have:=Cs hu x (by simp);omega
    | succ f=>exact⟨f,rfl⟩
   obtain⟨C,L⟩:=hu x (by simp) (by omega)
   obtain⟨M,r,hi,hr,e,D,_⟩:=vd (f:=f) C (by push_cast at L;exact L)
   have j:=Bt (P:=aA g) (m:=cp x) (by rw[gR];have:=B (by omega);unfold cp;omega)
   have o:=aaV hr
   have ab:M<g.rules.length:=(aaO.1 hr).1
   have q:=z.aB r o
   rw[pO (by omega),e,hi] at c ⊢
   rw[kX (by omega),e] at d ⊢
   simp only[aa5,aaS] at c d
   generalize ae:bA (aA g) (cp x)=p at j hi e
   simp(disch:=omega)only[↓wr,seval,wq,t0,K,kf]
   simp(disch:=omega)only[↓wr,seval,wq,t0,K,kf,j,cy,hi]
   intro n E
   rw[bE]
   simp(disch:=omega)only[↓wr,seval,wq]
   refine dC ((w.at 1 (by simp)).fresh E) (by simp[aL]) (by unfold aF;simp;omega) (by unfold aF;simp;omega) ?_
   intro N H1 s _
   simp only[abV,abW] at s
   have F:=s.is 1 rfl (by simp)
   have c1:=s.head.cells
   have k1:=s.head.dU
   simp(disch:=omega)only[↓wr,seval,wq,t0,F,kf,c1,k1,aO,aaJ,hr,encI]
   have O:=(s.at 1 (by simp)).put (es':=[kf g N J]) rfl rfl
   simp only[abV,abW] at O
   have a:=Lx g z A b f r.right q.2.2.1 (λy Q=>⟨q.2.2.2 y Q,λt=>A.neg o Q t⟩) D (R++[(M:Int)]) W _
    (by simp only[aa5,aaS,abe];omega) (by simp only[aa5];omega) ⟨N,J,by simpa using O⟩
   simp only[kf,encI] at a
   refine ay.cw (a.mono ?_)
   rintro v H2 ⟨G,I,o3⟩
   simp(disch:=omega)only[↓wr,seval,wq,t9]
   exact⟨0,by omega,1,by omega,.inr ⟨rfl,G,I,by simpa using o3⟩,t0,t7,t8,rfl⟩
  .simp(disch:=omega)only[↓wr,↓reduceIte,wq,Int.reduceNeg,iv,t8,t9]
   refine ao.dec (λh=>absurd h (by decide)) (λ_=>?_)
   simp(disch:=omega)only[↓wr,seval,wq]
   exact w
def wV:SF:=⟨ai [ag [cg 3 0,((some 6),.op (.eR (.val (.val (.pointer none))))),aT 7 0],.region true [⟨none,[aU 11 4 3,aU 12 4 3,aV 13 195 [12],((some 14),.op (.build [(.emp 1),(.emp 1),(.emp 1),(.val (.int .i64 0)),(.emp 1),(.emp 1),(.emp 1)] [(0,4,(.tmp 11)),(4,1,(.tmp 13))])),((some 15),.op (.box (.tmp 14))),af 8 15]⟩],ag [af 17 1,af 18 8,fO 19 18,aw 20 4 19,au 21 20,aV 22 196 [17,21],af 16 22,du 23 0 16,du 24 1 16,((some 9),.op (.alloc [(.val (.int .i64 0)),(.val (.int .i64 0)),(.val (.int .i64 0)),(.val (.int .i64 0))])),cz 4 9 23,af 10 24],.block 0 (ai [ag [af 26 10,cX 27 26,af 25 27],.cond (.tmp 25) (ai [ag [((some 6),.op (.eR (.val (.val (.pointer none))))),aT 7 9],.ret]) (ai [.region false [⟨none,[aw 29 2 9,au 30 29,aH 31 .gtr 30 300,af 32 31]⟩,⟨(some (32,false)),[aw 33 3 9,au 34 33,af 35 2,aS 36 .gtr 34 35]⟩,⟨none,[cG 37 32 36,af 28 37]⟩],aX 28 (ai [ag [((some 6),.op (.eR (.val (.val (.pointer none))))),aT 7 13],.ret])])]),ag [af 38 8,af 39 1,aV 40 197 [38,39]],ag [af 41 8,af 6 41,aT 7 0],.ret],
 [.tmp 6,.tmp 7],42⟩
theorem BH:aJ aa 131 [3]=some wV:=by kernel_rfl
def Hr:V:=.val (.pointer none)
def YN (g:aj) (l:List Int) (t:Int) (r:V) (H:View):Prop:=
 ((bP (aA g) l bm).2=false/\r=.bb [Hr,gi 9]) ∨
 ((bP (aA g) l bm).2=true/\(300<(bP (aA g) l bm).1.rules∨t<(bP (aA g) l bm).1.ax)/\r=.bb [Hr,gi 13]) ∨
 ((bP (aA g) l bm).2=true/\¬ (300<(bP (aA g) l bm).1.rules∨t<(bP (aA g) l bm).1.ax)/\∃b,r=.bb [.ptr b 0 0,gi 0]/\KI g b (fp g (aA g) g.av.length l) (dV g (aA g) g.av.length l) H)
theorem O8 (g:aj) (A:g.Ok) (d:g.c5) (l:List Int) (L:l.length<=1000000) (z:∀x∈l,bp x/\(x<0->-1-x<g.av.length)) (t:Int) (u:V) (H:View) (hi:Bo H u l):
  az aa 131 [.agg (ak g),u,gi t] H (YN g l t):=by
 have e:aI l:=by unfold aI;omega
 have z2:=d.av
 have z3:=d.rules
 refine az.of mixed BH ?_
 simp(disch:=omega)only[↓wr,seval,wq,wV,ak,encS]
 refine ay.pure (Uu g A d).pure ?_
 simp(disch:=omega)only[↓wr,seval,wq]
 intro b B
 have f:Bo (H.set b (.arr 7 [kf g (.emp 1) (.emp 1)])) u l:=hi.keep λid a=>by
  have:id≠b:=by rintro rfl;exact a B
  simp[View.set,this]
 try simp(disch:=omega)only[↓wr,seval,wq]
 have C:∀m,Dr (bA (aA g) m):=λm=>Lp z3 z2 m
 refine ay.kq (Sn (aA g) C l e λx i=>⟨(z x i).1,λh=>by rw[gR];exact(z x i).2 h⟩) (by kernel_rfl) ⟨f.kH,cq.tree (uC _),trivial⟩ ?_
 have j:=λ(h:iz (aA g) l)=>And.intro (S4 h) (pf g g.av.length l bm (s6 h) ib)
 have p:=ia (aA g) l bm
 have F:=Ik d.right g.av.length l
 have q:=oV (λm=>(C m).1) l bm ib
 unfold YN
 generalize G:bP (aA g) l bm=sp at p q j ⊢
 unfold eT at q
 simp(disch:=omega)only[↓wr,seval,wq,cy]
 intro n r
 have s:=(cn r cx).1
 have w:=(cn r cx).2
 try simp(disch:=omega)only[↓wr,seval,wq,cy]
 apply ao.split<;>intro c
 .have y:=p.1 c
  simp(disch:=omega)only[↓wr,seval,wq]
  apply ao.dec<;>intro D
  .simp(disch:=omega)only[↓wr,seval,wq]
   exact .inr (.inl ⟨c,.inl D,rfl⟩)
  .simp(disch:=omega)only[↓wr,seval,wq]
   apply ao.dec<;>intro E
   .simp(disch:=omega)only[↓wr,seval,wq]
    exact .inr (.inl ⟨c,.inr E,rfl⟩)
   .simp(disch:=omega)only[↓wr,seval,wq]
    have I:=(bw.nil (H:=H)).new B 7 [kf g (.emp 1) (.emp 1)]
    have J:=(j y).1 (by omega)
    have i:=Kt g A d b g.av.length l e z (s6 y) [] [] (((H.set b (.arr 7 [kf g (.emp 1) (.emp 1)])).set n (.arr 4 [[gi 0,gi 0,gi 0,gi 0]])).set n (.arr 4 [cy sp.1]))
     (by simp only[abD];omega) (by simp only[abD];omega)
     ⟨.emp 1,.emp 1,by
      rw[set_set]
      have K:=I.fresh (n:=n) (o:=.arr 4 [cy sp.1]) (by simp[View.set,s,w])
      exact((K.emp (k:=1) (sz:=1)).emp (k:=1) (sz:=1)).perm (Ma.trans (.swap _ _ _))⟩ u
     (f.keep λid a=>by
      have:id≠n:=by rintro rfl;simp[View.set,s,w] at a
      simp[View.set,this])
    simp only[abD,kf,cy] at i
    refine ay.cw (i.mono ?_)
    intro v H1 hw
    simp(disch:=omega)only[↓wr,seval,wq]
    exact .inr (.inr ⟨c,by omega,b,rfl,hw⟩)
 .simp(disch:=omega)only[↓wr,seval,wq]
  exact .inl ⟨c,rfl⟩
def yC:SF:=⟨ai [ag [bh 3 false],ag [aU 4 4 1,af 5 0,aV 6 130 [4,5],cX 7 6,af 3 7],.ret],
 [.tmp 3],8⟩
theorem CW:aJ aa 129 []=some yC:=by kernel_rfl
def A3:SF:=⟨ai [ag [cg 2 0,bU 4 1,aT 5 0],ai [.region false [⟨none,[aU 8 4 2,aV 9 89 [8],cX 10 9,af 11 10]⟩,⟨(some (11,false)),[af 12 1,((some 13),.op (.tQ 129 [] [(.tmp 2)])),aV 14 90 [12,13]]⟩,⟨none,[cG 15 11 14]⟩],aX 15 (ai [ag [bU 4 1,aT 5 1],.ret])],ag [aU 17 4 2,af 18 1,qh 19 131 [(.tmp 17),(.tmp 18),(.val (.val (.int .i64 60)))],af 16 19,du 20 0 16,du 21 1 16,af 6 20,af 7 21],ai [ag [af 22 7,aH 23 .neq 22 0],aX 23 (ai [ag [af 24 7,bU 4 1,af 5 24],.ret])],ag [af 25 6,fO 26 25,aw 27 6 26,au 28 27,af 4 28,aT 5 0],.ret],
 [.tmp 4,.tmp 5],29⟩
theorem FJ:aJ aa 67 [2]=some A3:=by kernel_rfl
theorem Se (g:aj) (x:Int) (b:bp x):aC aa 129 [gi x,.aP (ak g) 0] (gb (!dN g x)):=by
 refine aC.val (by
  intro v a;simp at a
  rcases a with rfl | rfl
  .exact .val _
  .exact iD (cB g)) λH=>?_
 refine az.of mixed CW ?_
 simp(disch:=omega)only[↓wr,seval,wq,yC,ak,encS]
 refine ay.pure (O0 g x b) ?_
 simp(disch:=omega)only[↓wr,seval,wq]
theorem KZ (g:aj) (s:g.Ok) (w:g.Small) (l:List Int) (y:l.length<=1000000) (t:∀x∈l,bp x):cd aa 67 [.agg (ak g),encI l] (DK (di g l)):=by
 have o:aI l:=by unfold aI;omega
 refine cd.of (by
  intro v f;simp at f
  rcases f with rfl | rfl
  .exact bW _ (cB g)
  .exact bC l) ?_
 refine az.of mixed FJ ?_
 simp(disch:=omega)only[↓wr,seval,wq,A3,ak,encS]
 refine ay.pure (pk g s w.names) ?_
 have bad:∀c:Heap,(bt g&&l.all (dN g))=false->dF c (.bb [.emp 1,gi 1]) (DK (di g l)):=λc e=>by
  unfold di;rw[aaI (by rw[e];simp)];exact lp (x:=([],1)) (.emp _)
 have h:=jn l o 129 [.aP (ak g) 0] (by intro v f;simp at f;subst f;exact iD (cB g)) (λx=>!dN g x) (λx n=>Se g x (t x n)) (by kernel_rfl)
 simp only[ak,encS] at h
 simp(disch:=omega)only[↓wr,seval,wq]
 apply ao.split<;>intro hr
 .simp(disch:=omega)only[↓wr,seval,wq]
  refine ay.pure h ?_
  have i:l.any (λx=>!dN g x) = !l.all (dN g):=by rw[List.not_all_eq_any_not]
  rw[i]
  simp(disch:=omega)only[↓wr,seval,wq]
  apply ao.split<;>intro a
  .have z:=bF hr
   have d:di g l=_:=aaL (by rw[hr,a];rfl)
   simp(disch:=omega)only[↓wr,seval,wq]
   have p:∀x∈l,bp x/\(x<0->-1-x<g.av.length):=λx n=>⟨t x n,λA=>by
    have:=abc.1 a x n
    unfold dN at this
    rw[aaI (by omega)] at this
    simpa using this⟩
   have hw:=O8 g s z l y p 60 (encI l) (λ_=>.dead) (.inl rfl)
   simp only[ak,encS] at hw
   refine ay.cw (hw.mono ?_)
   rintro r H1 (⟨j,rfl⟩ | ⟨j,q,rfl⟩ | ⟨j,q,b,rfl,C,D,u⟩)
   .simp(disch:=omega)only[↓wr,↓reduceIte,wq,Nat.reduceEqDiff,Nat.reduceAdd,Nat.reduceLT,Hr]
    refine ao.ne (λ_=>?_) (λk=>absurd k (by decide))
    simp(disch:=omega)only[↓wr,seval,wq]
    rw[aaL j] at d
    intro c _
    rw[d];exact lp (x:=([],9)) (.emp _)
   .simp(disch:=omega)only[↓wr,↓reduceIte,wq,Nat.reduceEqDiff,Nat.reduceAdd,Nat.reduceLT,Hr]
    refine ao.ne (λ_=>?_) (λk=>absurd k (by decide))
    simp(disch:=omega)only[↓wr,seval,wq]
    rw[aaI (by rw[j];simp),aaL q] at d
    intro c _
    rw[d];exact lp (x:=([],13)) (.emp _)
   .rw[aaI (by rw[j];simp),aaI q] at d
    have m:=u.is 0 rfl (by simp)
    simp(disch:=omega)only[↓wr,↓reduceIte,wq,Nat.reduceEqDiff,Nat.reduceAdd,Nat.reduceLT]
    refine ao.ne (λk=>absurd rfl k) (λ_=>?_)
    simp(disch:=omega)only[↓wr,seval,wq,m,kf]
    intro c B
    rw[d];exact lp (x:=(_,0)) (jx (by rw[B];exact u.own 2 rfl))
  .simp(disch:=omega)only[↓wr,seval,wq]
   intro c _
   exact bad c (by rw[a,ach])
 .simp(disch:=omega)only[↓wr,seval,wq]
  intro c _
  exact bad c (by rw[hr,ab0])
abbrev WD (l:List (List Int)):List (List V):=l.map λw=>[encI w]
theorem Ds {id off k m:Nat} (hm:m<=k):c8 1 (.sl id off k 1) none (some (gi m))=some (.sl id off m 1,.none,[]):=by
 simp[c8,bound,asNat,hm]
def Po:Value->Value->Bool
 | .int k a,.int k' b=>decide (k=k')&&decide (a=b)
 | .bool a,.bool b=>a==b
 | .string a,.string b=>kd a b
 | .pointer none,.pointer none=>true
 | _,_=>false
theorem Wa:∀(a b:Value),Po a b=true->a=b:=by
 intro a b h
 unfold Po at h
 split at h
 .simp only[aaR,aaX] at h
  rw[h.1,h.2]
 .rename_i a b
  rw[show a=b by simpa using h]
 .rename_i a b
  obtain⟨a⟩:=a
  obtain⟨b⟩:=b
  simp only[kd,abJ] at h
  rw[show a=b from Array.toList_inj.1 h]
 .rfl
 .simp at h
def C0 (q:V->V->Bool):List V->List V->Bool
 | [],[]=>true
 | a::l,b::m=>q a b&&C0 q l m
 | _,_=>false
def Oj (q:V->V->Bool):List (List V)->List (List V)->Bool
 | [],[]=>true
 | a::l,b::m=>C0 q a b&&Oj q l m
 | _,_=>false
def Ja:Nat->V->V->Bool
 | 0,_,_=>false
 | k+1,a,b=>match a,b with
  | .val x,.val y=>Po x y
  | .aZ x,.aZ y=>Oj (Ja k) x y
  | .agg x,.agg y=>C0 (Ja k) x y
  | .bb x,.bb y=>C0 (Ja k) x y
  | _,_=>false
theorem yh {q:V->V->Bool} (c:∀a b,q a b=true->a=b):∀(l m:List V),C0 q l m=true->l=m
 | [],[],_=>rfl
 | a::l,b::m,h=>by
  simp only[C0,aaR] at h
  rw[c a b h.1,yh c l m h.2]
 | [],_::_,h=>by simp[C0] at h
 | _::_,[],h=>by simp[C0] at h
theorem R9 {q:V->V->Bool} (c:∀a b,q a b=true->a=b):∀(l m:List (List V)),Oj q l m=true->l=m
 | [],[],_=>rfl
 | a::l,b::m,h=>by
  simp only[Oj,aaR] at h
  rw[yh c a b h.1,R9 c l m h.2]
 | [],_::_,h=>by simp[Oj] at h
 | _::_,[],h=>by simp[Oj] at h
theorem J3:∀(k:Nat) (a b:V),Ja k a b=true->a=b
 | 0,_,_,h=>by simp[Ja] at h
 | k+1,a,b,h=>by
  have c:=J3 k
  unfold Ja at h
  split at h
  .rw[Wa _ _ h]
  .rw[R9 c _ _ h]
  .rw[yh c _ _ h]
  .rw[yh c _ _ h]
  .simp at h
def wE:Nat->V->Bool
 | 0,_=>false
 | k+1,v=>match v with
  | .val _=>true
  | .emp _=>true
  | .ez=>true
  | .aZ es=>es.all λe=>e.all (wE k)
  | .agg cs=>cs.all (wE k)
  | .bb cs=>cs.all (wE k)
  | _=>false
theorem zh {q:V->Bool} {l:List V} (h:l.all q=true) {i:Nat} (hi:i<l.length):q (l.getD i .any)=true:=by
 have e:l.getD i .any=l[i]:=by simp[hi]
 rw[e]
 exact abc.1 h _ (aaP _)
theorem El:∀(k:Nat) (v:V),wE k v=true->Tree v
 | 0,_,h=>by simp[wE] at h
 | k+1,v,h=>by
  have a:=El k
  unfold wE at h
  split at h
  .exact .val _
  .exact .emp _
  .exact .ez
  .rename_i es
   refine .aZ _ λi j hi b=>a _ ?_
   have e:es.getD i []=es[i]:=by simp[hi]
   have h1:=abc.1 h _ (aaP hi)
   rw[e] at b ⊢
   exact zh h1 b
  .exact .agg _ λi hi=>a _ (zh h hi)
  .exact .bb _ λi hi=>a _ (zh h hi)
  .simp at h
def zA (H:View):Nat->V->Option V
 | 0,_=>none
 | k+1,v=>match v with
  | .val x=>some (.val x)
  | .emp _=>some (.aZ [])
  | .aZ es=>match wE 60 (.aZ es) with
   | true=>some (.aZ es)
   | false=>none
  | .sl id off len _=>match H id with
   | .arr _ es=>match Nat.ble (off+len) es.length with
    | true=>(GO (zA H k) ((es.drop off).take len)).map .aZ
    | false=>none
   | _=>none
  | .agg cs=>(qp (zA H k) cs).map .agg
  | .bb cs=>(qp (zA H k) cs).map .bb
  | _=>none
theorem Ht (h:Heap):∀(k:Nat) (v t:V),zA h.view k v=some t->Fr h v t
 | 0,v,t,a=>by simp[zA] at a
 | k+1,v,t,a=>by
  have b:=Ht h k
  simp only[zA] at a
  split at a
  .simp only[aaK] at a;subst a;exact .tree _ (.val _)
  .simp only[aaK] at a;subst a;exact .emp _
  .split at a
   .rename_i d
    simp only[aaK] at a;subst a;exact .tree _ (El _ _ d)
   .simp at a
  .rename_i id off len esz
   split at a
   .rename_i z es hH
    split at a
    .rename_i hle
     have hle:=Nat.le_of_ble_eq_true hle
     simp only[aaT] at a
     obtain⟨es',he,rfl⟩:=a
     obtain⟨g1,g2⟩:=G0 _ _ he
     have hlen:es'.length=len:=by rw[g1];simp;omega
     have e:∀i,i<len->((es.drop off).take len).getD i []=es.getD (off+i) []:=λi hi=>by
      simp[hi]
     have g3:∀i,i<len->qp (zA h.view k) (es.getD (off+i) [])=some (es'.getD i []):=λi hi=>by
      rw[<-e i hi];exact g2 i (by rw[<-g1,hlen];exact hi)
     exact .sl id off len esz z es es' hH hle hlen (λi hi=>(jm _ _ (g3 i hi)).1) (λi j hi f=>b _ _ ((jm _ _ (g3 i hi)).2 j (by rw[<-(jm _ _ (g3 i hi)).1];exact f)))
    .simp at a
   .simp at a
  .simp only[aaT] at a
   obtain⟨l,c,rfl⟩:=a
   obtain⟨g1,g2⟩:=jm _ _ c
   exact .agg _ _ g1 (λi hi=>b _ _ (g2 i hi))
  .simp only[aaT] at a
   obtain⟨l,c,rfl⟩:=a
   obtain⟨g1,g2⟩:=jm _ _ c
   exact .bb _ _ g1 (λi hi=>b _ _ (g2 i hi))
  .simp at a
theorem aC.seen {P:Program} {f:FuncId} {vs g:List V} {t:V} (p:aC P f g t) (q:∀i,i<vs.length->Tree (vs.getD i .any)) (r:g.length=vs.length) (k:∀i,i<vs.length->Fr [] (vs.getD i .any) (g.getD i .any)):aC P f vs t:=by
 intro Z μ w xs a n
 have l:eO Z (λ_=>none) w.heap (cat [] λ_=>.dead):=by
  rw[GZ]
  exact⟨λ_=>trivial,λi j b o s B C _ h=>by simp at h,λid b o s h=>by simp at h,n,λid b o s h=>by simp at h⟩
 have c:∀b,¬ kC (λ_=>none) b:=λb ⟨_,_,_,h⟩=>by simp at h
 have m:gG (λb=>Z b∨kC (λ_=>none) b) μ w.heap g xs:=⟨by rw[r,a.1],λi hi=>EP l (k i (by omega)) (zU (a.2 i (by omega)) (q i (by omega)))⟩
 refine(p _ μ w xs m (λb d=>d.elim (n b) (λh=>absurd h (c b)))).mono ?_
 rintro e w' ⟨x,u,rfl,v,y,h1,z,A⟩
 exact⟨x,u,rfl,v,y,λb d=>h1 b (.inl d),λb d=>(z b d).elim (λh=>h.elim .inl (λh=>absurd h (c b))) .inr,A⟩
abbrev Hj:=FuncId × List V × V × Bool
def Hj.Ok (P:Program) (x:Hj):Prop:=dZ P x.1=true/\if x.2.2.2=true then aC P x.1 x.2.1 x.2.2.1 else (cd P x.1 x.2.1 x.2.2.1∨(aC P x.1 x.2.1 x.2.2.1/\zK x.2.2.1))
def WA (g:FuncId) (vs:List V) (H:View) (x:Hj):Bool:=Nat.beq x.1 g&&(match x.2.2.2 with
 | true=>vs.all (wE 60)&&(match qp (zA (λ_=>.dead) 60) vs with
  | some ts=>C0 (Ja 60) ts x.2.1
  | none=>false)
 | false=>match qp (zA H 60) vs with
  | some ts=>C0 (Ja 60) ts x.2.1
  | none=>false)
def QD (l:List Hj):BF:=λg vs H=>(l.find? (WA g vs H)).map λx=>x.2.2.1
theorem LF {P:Program} {l:List Hj} (o:∀x∈l,x.Ok P):vq P (QD l):=by
 intro g vs H t h
 unfold QD at h
 simp only[aaT] at h
 obtain⟨⟨f,q,r,b⟩,n,rfl⟩:=h
 obtain⟨h1,c⟩:=o _ (List.mem_of_find?_eq_some n)
 have a:=List.find?_some n
 simp only[WA,aaR] at a
 obtain⟨k,a⟩:=a
 have k:=acG k
 simp only at k h1 c a
 subst k
 refine⟨h1,?_⟩
 rintro h rfl
 cases b with
 | true =>
  simp only[aaR] at a
  obtain⟨m,d⟩:=a
  split at d
  .rename_i us e
   obtain⟨g1,g2⟩:=jm _ _ e
   have:=yh (J3 60) _ _ d
   subst this
   simp only[if_true] at c
   exact bZ.hZ (c.seen (λi hi=>El _ _ (zh m hi)) g1 λi hi=>Ht [] 60 _ _ (g2 i hi)) h
  .simp at d
 | false =>
  simp only at a
  split at a
  .rename_i us e
   obtain⟨g1,g2⟩:=jm _ _ e
   have:=yh (J3 60) _ _ a
   subst this
   have j:=λi hi=>Ht h 60 _ _ (g2 i hi)
   simp only[aa9,if_false] at c
   rcases c with c | ⟨c,p⟩
   .exact bZ.yD c g1 j
   .exact bZ.borrow c p g1 j
  .simp at a
def xk (x:Int):Bool:=decide (-9223372036854775808<=x)&&decide (x<=9223372036854775807)
theorem rT {x:Int} (h:xk x=true):bp x:=by
 unfold xk at h
 simp only[aaR,aaX] at h
 exact h
def okB (g:aj):Bool:=decide (g.ax.length<=900)&&decide (g.av.length<=100)&&decide (g.rules.length<=900)&&xk g.start&&g.ax.all (λt=>xk t.level&&xk t.assoc)&&g.rules.all λr=>xk r.left&&xk r.prec&&decide (r.right.length<=900)&&r.right.all xk
theorem Ye {g:aj} (h:okB g=true):g.Ok/\g.Small:=by
 unfold okB at h
 simp only[aaR,aaX,abc] at h
 obtain⟨⟨⟨⟨⟨h1,f⟩,i⟩,c⟩,a⟩,d⟩:=h
 refine⟨⟨by unfold aI;omega,by unfold aI;omega,by unfold aI;omega,rT c,λt b=>⟨rT (a t b).1,rT (a t b).2⟩,λr hr=>?_⟩,⟨by omega⟩⟩
 have:=d r hr
 exact⟨rT this.1.1.1,rT this.1.1.2,by unfold aI;have:=this.1.2;omega,λx e=>rT (this.2 x e)⟩
theorem Jh:kD.Ok/\kD.Small:=Ye (by kernel_rfl)
structure fV where
 sym:Int
 to:Int
 deriving DecidableEq
def lX (x:fV):List V:=[gi x.sym,gi x.to]
structure aN where
 aB:Int
 dot:Int
 deriving DecidableEq
def bK (x:aN):List V:=[gi x.aB,gi x.dot]
def bf (l:List aN):List (List V):=l.map bK
def c6 (a b:aN):Bool:=decide (a.aB<b.aB)||(decide (a.aB=b.aB)&&decide (a.dot<b.dot))
def eZ:List aN->aN->List aN
 | [],x=>[x]
 | y::l,x=>if c6 y x=true then y::eZ l x else if y=x then y::l else x::y::l
theorem XG (a b:aN):∀v∈[V.agg (bK a),.agg (bK b)],Tree v:=by
 intro v c;simp at c
 rcases c with rfl | rfl<;>exact bW _ λv c=>by simp[bK] at c;rcases c with rfl | rfl<;>exact .val _
def sK:SF:=⟨ai [ag [cg 2 0,cg 3 1,bh 4 false],.region false [⟨none,[aw 5 0 2,au 6 5,aw 7 0 3,au 8 7,aS 9 .lss 6 8,af 10 9]⟩,⟨(some (10,false)),[aw 11 0 2,au 12 11,aw 13 0 3,au 14 13,aS 15 .eql 12 14,af 16 15]⟩,⟨(some (16,true)),[aw 17 1 2,au 18 17,aw 19 1 3,au 20 19,aS 21 .lss 18 20]⟩,⟨(some (10,false)),[dQ 22 16 21]⟩,⟨none,[cG 23 10 22,af 4 23]⟩],.ret],
 [.tmp 4],24⟩
theorem y5:aJ aa 198 [2,3]=some sK:=by kernel_rfl
def rE:SC:=
 ai [ai [.region false [⟨none,[af 7 5,af 8 0,aM 9 8,aS 10 .lss 7 9,af 11 10]⟩,⟨(some (11,true)),[af 12 0,af 13 5,aK 14 2 12 13,aU 15 2 14,aU 16 2 3,aV 17 198 [15,16]]⟩,⟨none,[dQ 18 11 17]⟩],bQ 18 (.exit 0)],.block 1 (ag [af 19 5,aH 20 .add 19 1,af 5 20])]
def uc:SF:=⟨ai [ag [cg 3 1,bU 4 1],ag [aT 5 0],bS 0 rE,ai [.region false [⟨none,[af 21 5,af 22 0,aM 23 22,aS 24 .lss 21 23,af 25 24]⟩,⟨(some (25,true)),[af 26 0,af 27 5,aK 28 2 26 27,aU 29 2 28,aU 30 2 3,((some 31),.op (.old (.binOp .eql 120 (.tmp 29) (.tmp 30) 120) 4))]⟩,⟨none,[dQ 32 25 31]⟩],aX 32 (ai [ag [af 33 0,af 4 33],.ret])],ag [bU 34 2,af 35 0,af 36 5,((some 37),.op (.slice 2 (.tmp 35) (some (.tmp 36)) none)),fP 38 2 16 34 37,af 6 38],ag [af 39 0,af 40 5,((some 41),.op (.slice 2 (.tmp 39) none (some (.tmp 40)))),aU 42 2 3,((some 43),.op (.bO 1 2 [(.val (.int .i64 0)),(.val (.int .i64 0))] [(0,(.tmp 42))])),fP 44 2 16 41 43,af 45 6,fP 46 2 16 44 45,af 4 46],.ret],
 [.tmp 4],47⟩
theorem zb:aJ aa 133 [3]=some uc:=by kernel_rfl
theorem Uo (a b:aN):aC aa 198 [.agg (bK a),.agg (bK b)] (gb (c6 a b)):=by
 refine aC.val (XG a b) λH=>?_
 refine az.of mixed y5 ?_
 unfold c6
 simp(disch:=omega)only[↓wr,seval,wq,sK,bK]
 apply ao.dec<;>intro h1
 .simp(disch:=omega)only[↓wr,seval,wq]
  rw[abj h1];rfl
 simp(disch:=omega)only[↓wr,seval,wq]
 apply ao.eq<;>intro c
 .simp(disch:=omega)only[↓wr,seval,wq]
  rw[decide_eq_false h1,abj c];rfl
 .simp(disch:=omega)only[↓wr,seval,wq]
  rw[decide_eq_false h1,decide_eq_false c];rfl
def eK:List aN->aN->Nat
 | [],_=>0
 | y::l,x=>if c6 y x=true then eK l x+1 else 0
theorem EC:∀(l:List aN) (x:aN),eK l x<=l.length
 | [],_=>aaQ _
 | y::l,x=>by
  rw[eK];split
  .have:=EC l x;simp;omega
  .simp
theorem Fi:∀(l:List aN) (x:aN) (i:Nat) (y:aN),l[i]?=some y->i<eK l x->c6 y x=true
 | [],_,_,_,h,_=>by simp at h
 | z::l,x,0,y,h,hi=>by
  rw[eK] at hi;split at hi
  .simp at h;subst h;assumption
  .omega
 | z::l,x,i+1,y,h,hi=>by
  rw[eK] at hi;split at hi
  .exact Fi l x i y (by simpa using h) (by omega)
  .omega
theorem GB:∀(l:List aN) (x:aN) (y:aN),l[eK l x]?=some y->c6 y x=false
 | [],_,_,h=>by simp at h
 | z::l,x,y,h=>by
  rw[eK] at h;split at h
  .exact GB l x y (by simpa using h)
  .rename_i e;simp at h;subst h;simpa using e
theorem y6:∀(l:List aN) (x:aN),eZ l x=if l[eK l x]?=some x then l else l.take (eK l x)++[x]++l.drop (eK l x)
 | [],x=>by simp[eZ,eK]
 | y::l,x=>by
  rw[eZ,eK]
  split
  .have:=y6 l x
   simp only[abv,acP,acQ,abl]
   rw[this];split<;>simp
  .simp only[abb,aaK,List.take_zero,abI,abD,abl]
theorem sU (x y:aN):hU aa 9998 #[.int .i64 x.aB,.int .i64 x.dot] #[.int .i64 y.aB,.int .i64 y.dot]
  [{ name:= "Rule",type:=3,offset:=0,embedded:=false,tag:= "",pkgPath:= "",byteOffset:=0 },{ name:= "Dot",type:=3,offset:=1,embedded:=false,tag:= "",pkgPath:= "",byteOffset:=8 }] ((x.aB==y.aB)&&((x.dot==y.dot)&&true)):=
 .int _ _ _ .i64 _ _ (by decide) Tryz.underlying3 rfl rfl (.int _ _ _ .i64 _ _ (by decide) Tryz.underlying3 rfl rfl .nil)
theorem AQ (x y:aN):((x.aB==y.aB)&&((x.dot==y.dot)&&true))=decide (x=y):=by
 cases x;cases y;rw[aby];simp
theorem qT {sz id off k m:Nat} (hm:m<=k):c8 sz (.sl id off k sz) (some (gi m)) none=some (.sl id (off+m) (k-m) sz,.none,[]):=by
 simp[c8,bound,asNat,hm]
theorem qa {sz id off k m:Nat} (hm:m<=k):c8 sz (.sl id off k sz) none (some (gi m))=some (.sl id off m sz,.none,[]):=by
 simp[c8,bound,asNat,hm]
theorem RC (l:List aN):((bf l).all λe=>e.length==2&&e.all aL)=true:=by
 simp[bf,bK,aL]
theorem RW {H:View} {u:V} {sz:Nat} {es:List (List V)} (h:aQ H u sz es):∃rd,bM H u=some (es,rd):=by
 rcases h with ⟨rfl,k,rfl⟩ | ⟨n,rfl,a⟩
 .exact⟨_,xL _ k⟩
 .cases es with
  | nil=>exact⟨[],by simp[bM]⟩
  | cons e es =>
   exact⟨_,by rw[show (e::es).length=es.length+1 from rfl,j7 _ n 0 es.length sz sz _ a (by simp),abI,aaY (by simp)]⟩
theorem sC {sz bytes:Nat} {u:V} {es:List (List V)} {H:View} {K:V->View->Prop} {w:c9 (H,K)} (a:aQ H u sz es) (h:K u H):mO sz bytes u [] H K w:=by
 unfold mO
 rcases a with ⟨_,k,rfl⟩ | ⟨n,rfl,_⟩<;>simpa using h
theorem Left.behind {H H':View} {q:Nat} {o:cr} {u r:V} (d:H q=.dead) (h:Left (H.set q o) H' u r):Left H H' u r:=λa c b=>by
 have e:¬ a=q:=by rintro rfl;exact c d
 have:=h a (by simp[View.set,e];exact c) b
 simpa [View.set,e] using this
theorem Eb (u:V) (l:List aN) (hl:l.length<=100000) (x:aN) (H:View) (v:aQ H u 2 (bf l)):az aa 133 [u,.agg (bK x)] H λr H'=>aQ H' r 2 (bf (eZ l x))/\Left H H' u r:=by
 refine az.of mixed zb ?_
 have hlen:cE u=some l.length:=by rw[v.len];simp[bf]
 have hle:=EC l x
 simp(disch:=omega)only[↓wr,seval,wq,uc,bK]
 refine aW.up (eK l x) (λi T H'=>H'=H/\i<=eK l x/\T 0=u/\T 3=.aP (bK x) 0/\T 5=gi i) ⟨rfl,by omega,rfl,rfl,rfl⟩ ?_
 rintro i k T H' hk ⟨Z,hi,t0,t3,t5⟩
 subst Z
 simp(disch:=omega)only[↓wr,seval,wq,rE,t0,t5,hlen]
 have stop:i=eK l x->True:=λ_=>trivial
 apply ao.dec<;>intro K
 .have w:l[i]?=some (l[i]'(by omega)):=aaH (by omega)
  generalize l[i]'(by omega)=y at w
  obtain⟨id,hu,b⟩:=v.sl (by simp[bf];omega)
  have n:(bf l).length=l.length:=by simp[bf]
  have L:(bf l).getD i []=bK y:=by simp[bf,w]
  have A:=Uo y x
  simp only[bK] at A L
  simp(disch:=omega)only[↓wr,seval,wq,t0,t3,t5,hu,b,L,bK]
  refine⟨by simp[bf];omega,by simp[bf];omega,?_⟩
  refine ay.pure A ?_
  simp(disch:=omega)only[↓wr,seval,wq]
  apply ao.split<;>intro e
  .have B:i<eK l x:=by
    rcases abg i (eK l x) with h | h
    .exact h
    .have:=GB l x y (by rw[show eK l x=i by omega];exact w)
     rw[this] at e;exact absurd e (by simp)
   simp(disch:=omega)only[↓wr,seval,wq,t0,t5]
   exact aE hk B ⟨rfl,B,t0,t3,rfl⟩
  have s:i=eK l x:=by
   rcases abg i (eK l x) with h | h
   .rw[Fi l x i y w h] at e;exact absurd e (by simp)
   .omega
  simp(disch:=omega)only[↓wr,seval,wq,t0,t5,hlen]
  refine ao.dec (λ_=>?_) (λh=>absurd K h)
  simp(disch:=omega)only[↓wr,seval,wq,t0,t3,t5,hu,b,L,bK]
  refine⟨by simp[bf];omega,by simp[bf];omega,?_⟩
  refine km (xs:=#[.int .i64 y.aB,.int .i64 y.dot]) (ys:=#[.int .i64 x.aB,.int .i64 x.dot]) Tryz.underlying120 (by kernel_rfl) (by kernel_rfl) ?_ ?_ (sU y x) (.inl ⟨rfl,rfl⟩) ?_
  .rfl
  .rfl
  rw[AQ]
  simp(disch:=omega)only[↓wr,seval,wq]
  apply ao.dec<;>intro M
  .subst M
   simp(disch:=omega)only[↓wr,seval,wq,t0]
   rw[y6,aaL (by rw[<-s];exact w)]
   exact⟨v,λid b v=>⟨rfl,v⟩⟩
  rw[n] at hu
  have N:bM H' (.sl id i (l.length-i) 2)=some (bf (l.drop i),[id]):=by
   obtain⟨q,d⟩:∃q,l.length-i=q+1:=⟨l.length-i-1,by omega⟩
   rw[d,j7 H' id i q 2 2 (bf l) b (by rw[n];omega)]
   rw[show (bf l).drop i=bf (l.drop i) from List.map_drop.symm,aaY (by simp[bf];omega)]
  simp(disch:=omega)only[↓wr,seval,wq,t0,t5,hu,qT (sz:=2) (id:=id) (off:=0) (k:=l.length) (m:=i) (by omega),N]
  refine fE aQ.nil (RC _) (by unfold aF bf;simp;omega) (by unfold aF bf;simp;omega) ?_
  intro rest H1 O lr
  simp(disch:=omega)only[↓wr,seval,wq,t0,t3,t5,hu,qa (sz:=2) (id:=id) (off:=0) (k:=l.length) (m:=i) (by omega),bK]
  intro q d
  have C:owner rest≠some id:=(lr id (by rw[b];simp) (by simp[owner])).2
  have f:H1 id=.arr 2 (bf l):=by rw[(lr id (by rw[b];simp) (by simp[owner])).1,b]
  have D:¬ id=q:=by rintro rfl;rw[f] at d;simp at d
  simp(disch:=omega)only[↓wr,seval,wq,bE]
  rw[vS _ _ _ _ _ _ _ _ _ _ (by rfl)]
  simp(disch:=omega)only[↓wr,seval,wq,D,f,n]
  refine⟨⟨by omega,by unfold aF;omega,by unfold aF;omega⟩,λj c=>?_⟩
  try rw[abI]
  have E:¬ j=q:=by rintro rfl;simp at c
  rw[aaI E] at c
  have F:¬ j=id:=by rintro rfl;rw[f] at c;simp at c
  have g:=((O.fresh (o:=.arr 2 [[gi x.aB,gi x.dot]]) d).other (o:=.dead) C).fresh (m:=j) (o:=.arr 2 (List.take i (bf l)++[[gi x.aB,gi x.dot]])) (by simp[View.set,E,F,c])
  have G:aQ (((H1.set q (.arr 2 [[gi x.aB,gi x.dot]])).set id .dead).set j (.arr 2 (List.take i (bf l)++[[gi x.aB,gi x.dot]]))) (.sl j 0 (i+1) 2) 2 (List.take i (bf l)++[[gi x.aB,gi x.dot]]):=.inr ⟨j,by simp[n];omega,by simp[View.set]⟩
  have I:∀a,H' a≠.dead->a≠id->(((H1.set q (.arr 2 [[gi x.aB,gi x.dot]])).set id .dead).set j (.arr 2 (List.take i (bf l)++[[gi x.aB,gi x.dot]]))) a=H' a/\a≠j:=λa z P=>by
   have h1:=(lr a z (by simp[owner])).1
   have aq:¬ a=q:=by rintro rfl;rw[d] at h1;exact z h1.symm
   have W:¬ a=j:=by rintro rfl;rw[c] at h1;exact z h1.symm
   exact⟨by simp[View.set,aq,W,P,h1],W⟩
  generalize ((H1.set q (.arr 2 [[gi x.aB,gi x.dot]])).set id .dead).set j (.arr 2 (List.take i (bf l)++[[gi x.aB,gi x.dot]]))=H3 at g G I ⊢
  rw[abD] at g
  obtain⟨rd,he⟩:=RW g
  simp(disch:=omega)only[↓wr,seval,wq,he]
  refine fE G (RC _) (by unfold aF bf;simp;omega) (by unfold aF bf;simp;omega) ?_
  intro r X t J
  simp(disch:=omega)only[↓wr,seval,wq]
  refine⟨?_,λa z Q=>?_⟩
  .rw[y6,aaI (by rw[<-s,w];simpa using M),<-s]
   simpa [bf,bK,List.map_take,List.map_drop] using t
  .obtain⟨Y,k2⟩:=I a z (by rintro rfl;exact Q (by rw[hu];rfl))
   have:=J a (by rw[Y];exact z) (by simp[owner];exact λh=>k2 h.symm)
   exact⟨by rw[this.1,Y],this.2⟩
 .simp(disch:=omega)only[↓wr,seval,wq,t0,t5,hlen]
  refine ao.dec (λh=>absurd h K) (λ_=>?_)
  have R:i=l.length:=by omega
  subst R
  have p:bf (eZ l x)=bf l++[[gi x.aB,gi x.dot]]:=by
   rw[y6,show eK l x=l.length by omega,abi (aaQ _),aaI (by simp),aca,List.drop_length]
   simp[bf,bK]
  rcases v with ⟨e,k0,hu⟩ | ⟨id,hu,b⟩
  .have S:l=[]:=by simpa [bf] using e
   subst S
   simp(disch:=omega)only[↓wr,seval,wq,t0,t5,hu,show ∀k,c8 2 (.emp k) (some (gi 0)) none=some (.emp k,.none,[]) from λk=>rfl,show ∀k,c8 2 (.emp k) none (some (gi 0))=some (.emp k,.none,[]) from λk=>rfl]
   refine sC aQ.nil ?_
   simp(disch:=omega)only[↓wr,seval,wq,t0,t3,t5,hu,show ∀k,c8 2 (.emp k) none (some (gi 0))=some (.emp k,.none,[]) from λk=>rfl,bK]
   intro q d
   simp(disch:=omega)only[↓wr,seval,wq,bE]
   refine fE (sz:=2) (u:=.emp k0) aQ.nil (by simp[aL]) (by unfold aF;simp) (by unfold aF;simp) ?_
   intro r X t J
   simp(disch:=omega)only[↓wr,seval,wq]
   refine sC t ?_
   simp(disch:=omega)only[↓wr,seval,wq]
   exact⟨by rw[p];exact t,hu▸Left.behind d J⟩
  .rw[show (bf l).length=l.length by simp[bf]] at hu
   simp(disch:=omega)only[↓wr,seval,wq,t0,t5,hu,qT (sz:=2) (id:=id) (off:=0) (k:=l.length) (m:=l.length) (by omega)]
   rw[Nat.sub_self,show bM H' (.sl id l.length 0 2)=some ([],[]) from rfl]
   simp(disch:=omega)only[↓wr,seval,wq]
   refine sC aQ.nil ?_
   simp(disch:=omega)only[↓wr,seval,wq,t0,t3,t5,hu,qa (sz:=2) (id:=id) (off:=0) (k:=l.length) (m:=l.length) (by omega),bK]
   intro q d
   simp(disch:=omega)only[↓wr,seval,wq,bE]
   have U:aQ H' (.sl id 0 l.length 2) 2 (bf l):=.inr ⟨id,by simp[bf],b⟩
   refine fE (sz:=2) (U.fresh d) (by simp[aL]) (by unfold aF bf;simp;omega) (by unfold aF bf;simp;omega) ?_
   intro r X t J
   simp(disch:=omega)only[↓wr,seval,wq]
   refine sC t ?_
   simp(disch:=omega)only[↓wr,seval,wq]
   exact⟨by rw[p];exact t,hu▸Left.behind d J⟩
def bV (g:aj) (r:Int):List Int:=if r = -1 then [-1-g.start] else (b6 g r).right
def bI (g:aj) (x:aN):Int × Bool:=if x.dot=(bV g x.aB).length then (0,false) else ((bV g x.aB).getD x.dot.toNat 0,true)
def rb:SF:=⟨ai [ag [cg 2 0,bU 4 1],ai [ag [af 5 1,aH 6 .eql 5 (-1)],aX 6 (ai [ag [aw 7 3 2,au 8 7,((some 9),.op (.arith .sub (.val (.val (.int .i64 (-1)))) (.tmp 8))),((some 10),.op (.bO 1 1 [(.val (.int .i64 0))] [(0,(.tmp 9))])),af 4 10],.ret])],ag [aw 11 2 2,au 12 11,af 13 1,aK 14 3 12 13,aw 15 1 14,au 16 15,af 4 16],.ret],
 [.tmp 4],17⟩
theorem xP:aJ aa 199 [2]=some rb:=by kernel_rfl
def tn:SF:=⟨ai [ag [cg 2 0,cg 3 1,aT 4 0,bh 5 false],ag [aU 7 4 2,aw 8 0 3,au 9 8,aV 10 199 [7,9],af 6 10],ai [ag [aw 11 1 3,au 12 11,af 13 6,aM 14 13,aS 15 .eql 12 14],aX 15 (ai [ag [aT 4 0,bh 5 false],.ret])],ag [af 16 6,aw 17 1 3,au 18 17,aK 19 1 16 18,au 20 19,af 4 20,bh 5 true],.ret],
 [.tmp 4,.tmp 5],21⟩
theorem yA:aJ aa 134 [2,3]=some tn:=by kernel_rfl
theorem FE (g:aj) (d : -100<=g.start/\g.start<=100) (r:Int) (hr : -1<=r/\r<(g.rules.length:Int)):aC aa 199 [.agg (ak g),gi r] (encI (bV g r)):=by
 refine aC.of (by
  intro v a;simp at a
  rcases a with rfl | rfl
  .exact bW _ (cB g)
  .exact .val _) ?_
 refine az.of mixed xP ?_
 unfold bV
 simp(disch:=omega)only[↓wr,seval,wq,rb,ak,encS]
 apply ao.eq<;>intro h1
 .simp(disch:=omega)only[↓wr,seval,wq]
  intro n
  rw[aaL h1]
  rintro c a
  refine dF.fr (jx (l:=[-1-g.start]) (.inr ⟨n,rfl,?_⟩))
  rw[a];simp[View.set]
 .have b:g.rules[r.toNat]?=some (b6 g r):=by unfold b6;exact getD_some (by omega)
  rw[aaI h1]
  generalize b6 g r=R at b
  simp(disch:=omega)only[↓wr,seval,wq,aaJ,b,aO]
  intro c _
  exact .tree _ (bC R.right)
theorem Tc (g:aj) (c : -100<=g.start/\g.start<=100) (x:aN) (d : -1<=x.aB/\x.aB<(g.rules.length:Int)) (e:0<=x.dot/\x.dot<=(bV g x.aB).length) (f:(bV g x.aB).length<=1000):
  aC aa 134 [.agg (ak g),.agg (bK x)] (.bb [gi (bI g x).1,gb (bI g x).2]):=by
 have h1:=FE g c x.aB d
 refine aC.tree (by
  intro v a;simp at a
  rcases a with rfl | rfl
  .exact bW _ (cB g)
  .exact bW _ λv a=>by simp[bK] at a;rcases a with rfl | rfl<;>exact .val _) (.bb _ λi hi=>by
   match i,hi with
   | 0,_=>exact .val _
   | 1,_=>exact .val _) λH=>?_
 refine az.of mixed yA ?_
 simp only[ak,encS,encI] at h1
 unfold bI
 simp(disch:=omega)only[↓wr,seval,wq,tn,ak,encS,bK]
 refine ay.pure h1 ?_
 generalize bV g x.aB=R at e f ⊢
 simp(disch:=omega)only[↓wr,seval,wq]
 apply ao.eq<;>intro b
 .simp(disch:=omega)only[↓wr,seval,wq]
  rw[aaL b]
 .have h:R[x.dot.toNat]?=some (R.getD x.dot.toNat 0):=getD_some (by omega)
  simp(disch:=omega)only[↓wr,seval,wq,aaJ,h]
  rw[aaI b]
theorem gJ {a b:aN} : c6 a b=true↔a.aB<b.aB∨a.aB=b.aB/\a.dot<b.dot:=by
 simp[c6]
theorem pP {a b c:aN} (h:c6 a b=true) (k:c6 b c=true):c6 a c=true:=by
 rw[gJ] at h k ⊢;omega
theorem mY {a:aN} : c6 a a=false:=by
 cases h:c6 a a with
 | false=>rfl
 | true=>rw[gJ] at h;omega
theorem MZ {a b:aN} (h:c6 a b=true):c6 b a=false:=by
 cases k:c6 b a with
 | false=>rfl
 | true=>have:=pP h k;rw[mY] at this;exact absurd this (by simp)
theorem Ah {a b:aN} (h:c6 a b=false) (c:¬ a=b):c6 b a=true:=by
 rw[gJ]
 have h1:¬ c6 a b=true:=by simp[h]
 rw[gJ] at h1
 obtain⟨d,ad⟩:=a
 obtain⟨e,f⟩:=b
 simp only[aN.mk.injEq] at c
 simp only at h1 ⊢
 omega
abbrev cJ (l:List aN):Prop:=l.Pairwise λa b=>c6 a b=true
theorem jW:∀ {l:List aN} {x y:aN},y∈eZ l x↔y=x∨y∈l
 | [],x,y=>by simp[eZ]
 | z::l,x,y=>by
  rw[eZ]
  split
  .simp only[aa1,jW (l:=l)]
   constructor
   .rintro (h | h | h)<;>simp[h]
   .rintro (h | h | h)<;>simp[h]
  .split
   .rename_i h;subst h;simp
   .simp
theorem qG:∀ {l:List aN} {x:aN},cJ l->cJ (eZ l x)
 | [],x,_=>by simp[eZ,cJ]
 | z::l,x,h=>by
  rw[cJ,ab7] at h
  rw[eZ]
  split
  .rename_i c
   rw[cJ,ab7]
   refine⟨λy a=>?_,qG h.2⟩
   rcases jW.1 a with rfl | a
   .exact c
   .exact h.1 y a
  .rename_i c
   split
   .exact ab7.2 h
   .rename_i d
    have b:=Ah (by simpa using c) d
    rw[cJ,ab7]
    refine⟨λy a=>?_,ab7.2 h⟩
    rcases aa1.1 a with rfl | a
    .exact b
    .exact pP b (h.1 y a)
theorem ID:∀(l:List aN) (x:aN),(eZ l x).length=l.length∨(eZ l x).length=l.length+1
 | [],x=>.inr rfl
 | z::l,x=>by
  rw[eZ]
  split
  .rcases ID l x with h | h<;>simp[h]
  .split<;>simp
theorem Fj:∀ {l:List aN} {x:aN},cJ l->x∈l->eZ l x=l
 | [],x,_,h=>by simp at h
 | z::l,x,a,h=>by
  rw[cJ,ab7] at a
  rw[eZ]
  rcases aa1.1 h with rfl | h
  .rw[aaI (by simp[mY]),aaL rfl]
  .rw[aaL (a.1 x h),Fj a.2 h]
theorem E3:∀ {l:List aN} {x:aN},x ∉ l->(eZ l x).length=l.length+1
 | [],x,_=>rfl
 | z::l,x,h=>by
  simp only[aa1,not_or] at h
  rw[eZ]
  split
  .simp[E3 h.2]
  .rw[aaI (λe=>h.1 e.symm)];rfl
theorem HL:∀ {l:List aN} {x:aN},(∀y∈l,c6 y x=true)->eZ l x=l++[x]
 | [],x,_=>rfl
 | z::l,x,h=>by
  rw[eZ,aaL (h z (by simp)),HL λy a=>h y (by simp[a])];rfl
theorem BU:∀ {a b:List aN},cJ a->cJ b->(∀x,x∈a↔x∈b)->a=b
 | [],[],_,_,_=>rfl
 | [],y::b,_,_,h=>by have:=(h y).2 (by simp);simp at this
 | x::a,[],_,_,h=>by have:=(h x).1 (by simp);simp at this
 | x::a,y::b,d,e,h=>by
  rw[cJ,ab7] at d e
  have f:x=y:=by
   have h1:=(h x).1 (by simp)
   have c:=(h y).2 (by simp)
   rcases aa1.1 h1 with h1 | h1
   .exact h1
   .rcases aa1.1 c with c | c
    .exact c.symm
    .have:=pP (d.1 y c) (e.1 x h1)
     rw[mY] at this;exact absurd this (by simp)
  subst f
  congr 1
  refine BU d.2 e.2 λz=>?_
  have g:=h z
  simp only[aa1] at g
  constructor
  .intro hm
   rcases g.1 (.inr hm) with rfl | h
   .have:=d.1 z hm;rw[mY] at this;exact absurd this (by simp)
   .exact h
  .intro hm
   rcases g.2 (.inr hm) with rfl | h
   .have:=e.1 z hm;rw[mY] at this;exact absurd this (by simp)
   .exact h
theorem Ko:∀(l:List Int) (a n:Int),l.Pairwise (· < ·)->(∀x∈l,a<=x/\x<a+n)->0<=n->(l.length:Int)<=n
 | [],a,n,_,_,b=>by simpa using b
 | x::l,a,n,hp,hm,b=>by
  rw[ab7] at hp
  have h1:=hm x (by simp)
  have:=Ko l (x+1) (a+n-(x+1)) hp.2 (λy c=>by have:=hp.1 y c;have:=hm y (by simp[c]);omega) (by omega)
  simp only[aaS];omega
def cT (g:aj) (x:aN):Prop:=(-1<=x.aB/\x.aB<(g.rules.length:Int))/\0<=x.dot/\x.dot<=(bV g x.aB).length
theorem dY {g:aj} (a:g.c5) {r:Int} (h : -1<=r/\r<(g.rules.length:Int)):(bV g r).length<=6:=by
 unfold bV
 split
 .simp
 .have b:g.rules[r.toNat]?=some (b6 g r):=by unfold b6;exact getD_some (by omega)
  exact a.right _ (aaV b)
theorem ll {g:aj} (f:g.c5) {l:List aN} (i:cJ l) (h:∀x∈l,cT g x):l.length<=287:=by
 have d:∀x∈l,0<=x.dot/\x.dot<=6:=λx c=>by
  have h1:=h x c
  have:=dY f h1.1
  exact⟨h1.2.1,by have:=h1.2.2;omega⟩
 have h1:(l.map λx=>(x.aB+1)*7+x.dot).Pairwise (· < ·):=by
  rw[acX]
  refine List.Pairwise.imp_of_mem ?_ i
  intro a b j k e
  rw[gJ] at e
  have:=d a j;have:=d b k
  omega
 have:=Ko _ 0 287 h1 (λy m=>by
  obtain⟨x,c,rfl⟩:=aa4.1 m
  have n:=(h x c).1
  have:=d x c;have:=f.rules
  omega) (by omega)
 simp at this
 omega
inductive oN (g:aj) (l:List aN):aN->Prop
 | base {x:aN} : x∈l->oN g l x
 | step {x:aN} {s:Int} {k:Nat} {R:bc} : oN g l x->bI g x=(s,true)->s<0->g.rules[k]?=some R->R.left = -1-s->oN g l ⟨k,0⟩
theorem oN.has {g:aj} {l:List aN} (a:∀x∈l,cT g x) {x:aN} (h:oN g l x):cT g x:=by
 induction h with
 | base h=>exact a _ h
 | step _ _ _ hk _ _ =>
  have:=(aaO.1 hk).1
  exact⟨⟨by simp only;omega,by simp only;omega⟩,by simp only;omega,by simp only;omega⟩
def KR (g:aj):List aN:=(List.range (g.rules.length+1)).flatMap λ(r:Nat)=>(List.range 7).map λ(d:Nat)=>(⟨(r:Int)-1,(d:Int)⟩:aN)
theorem Qe {g:aj} (a:g.c5) {x:aN} (h:cT g x):x∈KR g:=by
 have:=dY a h.1
 obtain⟨⟨h1,b⟩,c,e⟩:=h
 simp only[KR,acB,aa4,abH]
 refine⟨(x.aB+1).toNat,by omega,x.dot.toNat,by omega,?_⟩
 obtain⟨r,d⟩:=x
 simp only at h1 b c e this
 simp only[aN.mk.injEq];omega
theorem vw:∀(l a:List aN),cJ a->cJ (l.foldl eZ a)/\∀x,x∈l.foldl eZ a↔x∈a∨x∈l
 | [],a,h=>⟨h,λx=>by simp⟩
 | y::l,a,h=>by
  obtain⟨h1,b⟩:=vw l (eZ a y) (qG h)
  refine⟨h1,λx=>?_⟩
  rw[abr,b,jW,aa1]
  constructor
  .rintro ((h | h) | h)<;>simp[h]
  .rintro (h | h | h)<;>simp[h]
open Classical in
def dp (g:aj) (l:List aN):List aN:=((KR g).filter λx=>decide (oN g l x)).foldl eZ []
theorem uK (g:aj) (l:List aN):cJ (dp g l):=(vw _ [] .nil).1
theorem gO {g:aj} (a:g.c5) {l:List aN} (b:∀x∈l,cT g x) {x:aN} : x∈dp g l↔oN g l x:=by
 classical
 rw[dp,(vw _ [] .nil).2]
 simp only[List.not_mem_nil,false_or,abR,aaX]
 exact⟨λh=>h.2,λh=>⟨Qe a (h.has b),h⟩⟩
theorem DU {g:aj} (b:g.c5) {l o:List aN} (c:∀x∈l,cT g x) (a:cJ o) (h1:∀x∈o,oN g l x) (d:∀x∈l,x∈o)
  (e:∀x∈o,∀(s:Int) (k:Nat) (R:bc),bI g x=(s,true)->s<0->g.rules[k]?=some R->R.left = -1-s->(⟨k,0⟩:aN)∈o):dp g l=o:=by
 refine BU (uK g l) a λx=>?_
 rw[gO b c]
 refine⟨λh=>?_,h1 x⟩
 induction h with
 | base h=>exact d _ h
 | step _ f a hk i j=>exact e _ j _ _ _ f a hk i
def bu (g:aj) (l:List aN) (s:Int):List aN:=(l.filter λx=>decide (bI g x=(s,true))).map λx=>⟨x.aB,x.dot+1⟩
theorem se {g:aj} {l:List aN} {s:Int} {y:aN} : y∈bu g l s↔∃x∈l,bI g x=(s,true)/\y=⟨x.aB,x.dot+1⟩:=by
 simp only[bu,aa4,abR,aaX]
 constructor
 .rintro⟨x,⟨h1,a⟩,rfl⟩;exact⟨x,h1,a,rfl⟩
 .rintro⟨x,h1,a,rfl⟩;exact⟨x,⟨h1,a⟩,rfl⟩
theorem I5 {g:aj} {l:List aN} (s:Int) (h:cJ l):cJ (bu g l s):=by
 rw[cJ,bu,acX]
 refine(h.filter _).imp ?_
 intro a b c
 rw[gJ] at c ⊢
 simp only;omega
theorem xn {g:aj} {x:aN} {s:Int} (h:bI g x=(s,true)):x.dot≠(bV g x.aB).length/\(bV g x.aB).getD x.dot.toNat 0=s:=by
 unfold bI at h
 split at h
 .simp at h
 .rename_i a;exact⟨a,by simpa using h⟩
theorem Kz {g:aj} {l:List aN} {s:Int} (a:∀x∈l,cT g x):∀y∈bu g l s,cT g y:=by
 intro y b
 obtain⟨x,c,d,rfl⟩:=se.1 b
 have h1:=a x c
 have e:=(xn d).1
 exact⟨h1.1,by simp only;have:=h1.2;omega,by simp only;have:=h1.2;omega⟩
theorem Tl {g:aj} {l:List aN} (b:cJ l) {i:Nat} {x:aN} (c:l[i]?=some x) (s:Int):
  bu g (l.take (i+1)) s=if bI g x=(s,true) then eZ (bu g (l.take i) s) ⟨x.aB,x.dot+1⟩ else bu g (l.take i) s:=by
 have e:l.take (i+1)=l.take i++[x]:=by rw[aa2,c];rfl
 rw[e]
 split
 .rename_i h
  rw[HL]
  .simp[bu,h]
  .intro y d
   obtain⟨z,f,_,rfl⟩:=se.1 d
   have a:cJ (l.take (i+1)):=b.sublist (List.take_sublist _ _)
   rw[e,cJ,List.pairwise_append] at a
   have:=a.2.2 z f x (by simp)
   rw[gJ] at this ⊢
   simp only;omega
 .rename_i h
  simp[bu,h]
theorem vH {g:aj} {l:List aN} {s:Int} : (bu g l s).length<=l.length:=by
 rw[bu,aaM];exact aco _ _
structure ba where
 bz:List aN
 cF:List fV
 deriving DecidableEq
abbrev bY:ba:=⟨[],[]⟩
def bg (g:aj) (i:Nat):Int:=if i<g.ax.length then i else -1-((i:Int)-g.ax.length)
def findD:List ba->List aN->Int
 | [],_=>-1
 | s::l,k=>if s.bz=k then 0 else if findD l k<0 then -1 else findD l k+1
theorem vg:∀(l:List ba) (k:List aN),-1<=findD l k
 | [],_=>by simp[findD]
 | s::l,k=>by
  have:=vg l k
  rw[findD];split
  .omega
  .split<;>omega
theorem zJ:∀(l:List ba) (k:List aN),findD l k<l.length
 | [],_=>by simp[findD]
 | s::l,k=>by
  have:=zJ l k
  rw[findD];simp only[aaS];split
  .omega
  .split<;>omega
theorem J2:∀(l:List ba) (k:List aN) (i:Nat),findD l k=i->∃s,l[i]?=some s/\s.bz=k
 | [],_,i,h=>by simp[findD] at h
 | s::l,k,i,h=>by
  rw[findD] at h
  split at h
  .rename_i e
   have:i=0:=by omega
   subst this
   exact⟨s,rfl,e⟩
  .split at h
   .omega
   .obtain⟨j,rfl⟩:∃j,i=j+1:=⟨i-1,by omega⟩
    obtain⟨t,h1,a⟩:=J2 l k j (by omega)
    exact⟨t,by simpa using h1,a⟩
theorem L6:∀(l:List ba) (k:List aN),findD l k<0->∀s∈l,s.bz≠k
 | [],_,_,s,a=>by simp at a
 | t::l,k,h,s,a=>by
  rw[findD] at h
  split at h
  .omega
  .rename_i b
   have c:findD l k<0:=by
    split at h
    .assumption
    .omega
   rcases aa1.1 a with rfl | a
   .exact b
   .exact L6 l k c s a
theorem Kx:∀(l:List ba) (k:List aN) (i:Nat) (s:ba),l[i]?=some s->s.bz=k->(∀j t,j<i->l[j]?=some t->t.bz≠k)->findD l k=i
 | [],_,_,_,h,_,_=>by simp at h
 | t::l,k,0,s,h,hk,_=>by simp at h;subst h;simp[findD,hk]
 | t::l,k,i+1,s,h,hk,a=>by
  have b:=a 0 t (by omega) rfl
  have:=Kx l k i s (by simpa using h) hk λj u c hu=>a (j+1) u (by omega) (by simpa using hu)
  rw[findD,aaI b,this,aaI (by omega)];omega
theorem Gs:∀(l:List ba) (k:List aN),(∀s∈l,s.bz≠k)->findD l k = -1
 | [],_,_=>rfl
 | t::l,k,h=>by
  have:=Gs l k λs a=>h s (by simp[a])
  rw[findD,aaI (h t (by simp)),this];rfl
def dw (g:aj) (l:List aN) (at_:Nat) (out:List ba) (i:Nat):List ba:=
 if bu g l (bg g i)=[] then out else
 if findD out (bu g l (bg g i))<0 then (out++[(⟨bu g l (bg g i),[]⟩:ba)]).modify at_ λs=>(⟨s.bz,s.cF++[⟨bg g i,out.length⟩]⟩:ba)
 else out.modify at_ λs=>(⟨s.bz,s.cF++[⟨bg g i,findD out (bu g l (bg g i))⟩]⟩:ba)
def xq (g:aj) (at_:Nat) (out:List ba) (n:Nat):List ba:=(List.range n).foldl (dw g (dp g (out.getD at_ bY).bz) at_) out
def fR (g:aj):Nat->Nat->List ba->List ba × Int
 | 0,_,out=>(out,0)
 | f+1,at_,out=>if at_<out.length then
   (if 300<(xq g at_ out (g.ax.length+g.av.length)).length then ([],5) else fR g f (at_+1) (xq g at_ out (g.ax.length+g.av.length)))
  else (out,0)
def eu:List ba:=[⟨[⟨-1,0⟩],[]⟩]
abbrev BV:=BitVec 32
def ir:List fV->Int->Int
 | [],_=>-1
 | e::l,s=>if e.sym=s then e.to else ir l s
def jT (a:List ba):Int->List Int->Int × Bool
 | at_,[]=>(at_,true)
 | at_,s::l=>if 0<=ir (a.getD at_.toNat bY).cF s/\ir (a.getD at_.toNat bY).cF s<a.length then jT a (ir (a.getD at_.toNat bY).cF s) l else (0,false)
def oI (a:List ba) (at_:Int) (l:List Int):Int × Bool:=if at_<0∨(a.length:Int)<=at_ then (0,false) else jT a at_ l
abbrev Sets:=List (List BV)
theorem I1 {α:Type} (l:List α) (i j:Nat) (x d:α):(l.set i x).getD j d=if i=j/\i<l.length then x else l.getD j d:=by
 simp only[aaG,abw]
 by_cases e:i=j
 .subst e
  by_cases h:i<l.length
  .simp[h]
  .simp[h]
 .simp[e]
def gY (g:aj) (x:aN):List Int:=if 0<=x.aB then (b6 g x.aB).right.drop (x.dot+1).toNat else []
section
variable {g:aj} {null:List Bool} {a:List ba} {ls:List (List aN)}
end
theorem j9 {g:aj} (a:g.c5) : -100<=g.start/\g.start<=100:=by
 have:=a.lE;have:=a.start;have:=a.av;omega
theorem Ed (g:aj) (b:g.c5) (x:aN) (a:cT g x):aC aa 134 [.agg (ak g),.agg (bK x)] (.bb [gi (bI g x).1,gb (bI g x).2]):=
 Tc g (j9 b) x a.1 a.2 (by have:=dY b a.1;omega)
theorem sQ {l:List aN} {i:Nat} {y:aN} (h:l[i]?=some y):(bf l).getD i []=[gi y.aB,gi y.dot]:=by simp[bf,h,bK]
theorem bR (l:List aN):(bf l).length=l.length:=by simp[bf]
theorem zW {g:aj} {x:aN} {s:Int} {b:Bool} (d:g.c5) (f:cT g x) (h:bI g x=(s,b)) : -1000<=s/\s<=1000:=by
 have a:∀s∈bV g x.aB,-1000<=s/\s<=1000:=by
  intro s c
  unfold bV at c
  split at c
  .simp at c;subst c;have:=j9 d;omega
  .have i:g.rules[x.aB.toNat]?=some (b6 g x.aB):=by unfold b6;exact getD_some (by have:=f.1;omega)
   have h1:=d.sym _ (aaV i) s c
   have:=d.ax;have:=d.av
   unfold dN at h1
   split at h1<;>simp at h1<;>omega
 unfold bI at h
 split at h
 .simp at h;omega
 .rename_i j
  simp only[aaN] at h
  have e:x.dot.toNat<(bV g x.aB).length:=by have:=f.2;omega
  rw[<-h.1]
  exact a _ (aaV (getD_some e))
def nE:SC:=
 ai [ai [ag [af 12 6,af 13 1,aM 14 13,aS 15 .lss 12 14],bQ 15 (.exit 0)],.block 1 (ag [af 18 5,af 19 1,af 20 6,aK 21 2 19 20,aU 22 2 21,aV 23 133 [18,22],af 5 23]),ag [af 16 6,aH 17 .add 16 1,af 6 17]]
def jH:SC:=
 ai [ai [.region false [⟨none,[af 41 9,af 42 41]⟩,⟨(some (42,true)),[af 43 8,aH 44 .lss 43 0]⟩,⟨none,[dQ 45 42 44,af 46 45]⟩,⟨(some (46,true)),[af 47 11,aw 48 2 2,au 49 48,aM 50 49,aS 51 .lss 47 50]⟩,⟨none,[dQ 52 46 51]⟩],bQ 52 (.exit 4)],.block 5 (ai [ag [aw 55 2 2,au 56 55,af 57 11,aK 58 3 56 57,aw 59 0 58,au 60 59,af 61 8,((some 62),.op (.arith .sub (.val (.val (.int .i64 (-1)))) (.tmp 61))),aS 63 .eql 60 62],aX 63 (ag [af 64 5,af 65 11,((some 66),.op (.build [(.val (.int .i64 0)),(.val (.int .i64 0))] [(0,1,(.tmp 65))])),aV 67 133 [64,66],af 5 67])]),ag [af 53 11,aH 54 .add 53 1,af 11 54]]
def nF:SC:=
 ai [ai [ag [af 24 7,af 25 5,aM 26 25,aS 27 .lss 24 26],bQ 27 (.exit 2)],.block 3 (ai [ag [aU 31 4 2,af 32 5,af 33 7,aK 34 2 32 33,aU 35 2 34,aV 36 134 [31,35],af 30 36,du 37 0 30,du 38 1 30,af 8 37,af 9 38],ag [af 39 5,aM 40 39,af 10 40],ai [ag [aT 11 0],bS 4 jH],ag [af 68 5,aM 69 68,af 70 10,aS 71 .gtr 69 70],aX 71 (ag [aT 7 (-1)])]),ag [af 28 7,aH 29 .add 28 1,af 7 29]]
def pt:SF:=⟨ai [ag [cg 2 0,bU 4 1],ag [bU 5 1],ai [ag [aT 6 0],bS 0 nE],ai [ag [aT 7 0],bS 2 nF],ag [af 72 5,af 4 72],.ret],
 [.tmp 4],73⟩
theorem vC:aJ aa 69 [2]=some pt:=by kernel_rfl
def pq:SC:=
 ai [ai [ag [af 11 8,af 12 1,aM 13 12,aS 14 .lss 11 13],bQ 14 (.exit 0)],.block 1 (ai [ag [aU 18 4 3,af 19 1,af 20 8,aK 21 2 19 20,aU 22 2 21,aV 23 134 [18,22],af 17 23,du 24 0 17,du 25 1 17,af 9 24,af 10 25],.region false [⟨none,[af 26 10,af 27 26]⟩,⟨(some (27,true)),[af 28 9,af 29 2,aS 30 .eql 28 29]⟩,⟨none,[dQ 31 27 30]⟩],aX 31 (ag [af 32 7,af 33 1,af 34 8,aK 35 2 33 34,aw 36 0 35,au 37 36,af 38 1,af 39 8,aK 40 2 38 39,aw 41 1 40,au 42 41,aH 43 .add 42 1,((some 44),.op (.build [(.val (.int .i64 0)),(.val (.int .i64 0))] [(0,1,(.tmp 37)),(1,1,(.tmp 43))])),aV 45 133 [32,44],af 7 45])]),ag [af 15 8,aH 16 .add 15 1,af 8 16]]
def rH:SF:=⟨ai [ag [cg 3 0,bU 6 1],ag [bU 7 1],ai [ag [aT 8 0],bS 0 pq],ag [af 46 7,af 6 46],.ret],
 [.tmp 6],47⟩
theorem xU:aJ aa 71 [3]=some rH:=by kernel_rfl
def pJ:SC:=
 ai [ai [ag [af 11 5,af 12 0,aM 13 12,aS 14 .lss 11 13],bQ 14 (.exit 0)],.block 1 (ai [ag [af 17 0,af 18 5,aK 19 2 17 18,aU 20 2 19,af 21 1,af 22 5,aK 23 2 21 22,aU 24 2 23,((some 25),.op (.old (.binOp .neq 120 (.tmp 20) (.tmp 24) 120) 4))],aX 25 (ai [ag [bh 4 false],.ret])]),ag [af 15 5,aH 16 .add 15 1,af 5 16]]
def rl:SF:=⟨ai [ag [bh 4 false],ai [ag [af 6 0,aM 7 6,af 8 1,aM 9 8,aS 10 .neq 7 9],aX 10 (ai [ag [bh 4 false],.ret])],ai [ag [aT 5 0],bS 0 pJ],ag [bh 4 true],.ret],
 [.tmp 4],26⟩
theorem xu:aJ aa 135 []=some rl:=by kernel_rfl
def qk:SF:=⟨ai [ag [cg 2 0,aT 4 0],ai [ag [af 5 1,aw 6 0 2,au 7 6,aM 8 7,aS 9 .lss 5 8],aX 9 (ai [ag [af 10 1,af 4 10],.ret])],ag [af 11 1,aw 12 0 2,au 13 12,aM 14 13,aS 15 .sub 11 14,((some 16),.op (.arith .sub (.val (.val (.int .i64 (-1)))) (.tmp 15))),af 4 16],.ret],
 [.tmp 4],17⟩
theorem vX:aJ aa 70 [2]=some qk:=by kernel_rfl
def Zl (g:aj) (out:List aN) (x:aN):Prop:=∀(s:Int) (k:Nat) (R:bc),bI g x=(s,true)->s<0->g.rules[k]?=some R->R.left = -1-s->(⟨k,0⟩:aN)∈out
def V2 (g:aj) (l:List aN) (H:View) (m:Nat) (T:Env) (H':View):Prop:=∃(i:Nat) (r:V) (out:List aN),m=(300-out.length)*1000+(300-i)/\i<=out.length/\aQ H' r 2 (bf out)/\ct H H' r/\cJ out/\(∀x∈out,oN g l x)/\(∀x∈l,x∈out)/\(∀j x,j<i->out[j]?=some x->Zl g out x) /\
 T 2=.aP (ak g) 0/\T 5=r/\T 7=gi i
theorem L7 (g:aj) (J:g.c5) (l:List aN) (hl:∀x∈l,cT g x) (hn:l.length<=10000) (u:V) (H:View) (ho:aQ H u 2 (bf l)):az aa 69 [.agg (ak g),u] H λr H'=>aQ H' r 2 (bf (dp g l))/\ct H H' r:=by
 refine az.of mixed vC ?_
 have hlen:cE u=some l.length:=by rw[ho.len];simp[bf]
 have bd:=J.rules
 simp(disch:=omega)only[↓wr,seval,wq,pt,ak,encS]
 refine aW.up l.length (λi T H'=>∃(r:V) (out:List aN),aQ H' r 2 (bf out)/\ct H H' r/\cJ out/\(∀x,x∈out↔x∈l.take i)/\out.length<=287/\T 1=u/\T 2=.aP (ak g) 0/\T 5=r/\T 6=gi i)
  ⟨.emp 1,[],.nil,.emp,.nil,by simp,by simp,rfl,rfl,rfl,rfl⟩ ?_
 rintro i k T H' hk ⟨r,out,D,fr,n,hm,hle,t1,t2,t5,t6⟩
 simp(disch:=omega)only[↓wr,seval,wq,nE,t1,t6,hlen]
 apply ao.dec<;>intro hc
 .have N:l[i]?=some (l[i]'(by omega)):=aaH (by omega)
  have W:l.take (i+1)=l.take i++[l[i]'(by omega)]:=by rw[aa2,N];rfl
  generalize l[i]'(by omega)=y at N W
  obtain⟨id,hu,t⟩:=ho.sl (by simp[bf];omega)
  have X:H' id=.arr 2 (bf l):=by rw[(fr id (by rw[t];simp)).1,t]
  simp(disch:=omega)only[↓wr,seval,wq,t1,t5,t6,hu,X,sQ N]
  refine⟨by first | omega | (simp[bf];omega),by first | omega | (simp[bf];omega),?_⟩
  refine ay.cw ((Eb r out (by omega) y H' D).mono ?_)
  rintro p H2 ⟨O,l2⟩
  simp(disch:=omega)only[↓wr,seval,wq,t6]
  have Y:∀x,x∈eZ out y↔x∈l.take (i+1):=λx=>by
   rw[jW,W,aa0,hm,abF,or_comm]
  have Z:=qG (x:=y) n
  exact aE hk (by omega) ⟨p,eZ out y,O,fr.step l2,Z,Y,ll J Z (λx b=>hl x (aci ((Y x).1 b))),t1,t2,rfl,rfl⟩
 rw[aaY (by omega)] at hm
 simp(disch:=omega)only[↓wr,seval,wq]
 refine aW.intro (V2 g l H) ((300-out.length)*1000+300)
  ⟨0,r,out,by omega,abY _,D,fr,n,λx b=>.base ((hm x).1 b),λx b=>(hm x).2 b,λj x hj=>by omega,t2,t5,rfl⟩ ?_
 clear D fr n hm hle t1 t2 t5 t6 hc hk
 rintro m T1 H1 ⟨i,r,out,rfl,hi,D,fr,n,E,P,ab,t2,t5,t7⟩
 have K:∀x∈out,cT g x:=λx b=>(E x b).has hl
 have hle:=ll J n K
 have ar:cE r=some out.length:=by rw[D.len,bR]
 simp(disch:=omega)only[↓wr,seval,wq,nF,t5,t7,ar]
 apply ao.dec<;>intro hc
 .have N:out[i]?=some (out[i]'(by omega)):=aaH (by omega)
  have Q:=K _ (aaP (show i<out.length by omega))
  have ae:=E _ (aaP (show i<out.length by omega))
  generalize out[i]'(by omega)=y at N Q ae
  have h1:=Ed g J y Q
  cases F:bI g y with
  | mk s G =>
  have bl:=zW J Q F
  rw[F] at h1
  obtain⟨id,hu,t⟩:=D.sl (by simp[bf];omega)
  rw[bR] at hu
  simp only[ak,encS,bK] at h1
  simp(disch:=omega)only[↓wr,seval,wq,t2,t5,t7,hu,t,sQ N,ak,encS]
  refine⟨by first | omega | (simp[bf];omega),by first | omega | (simp[bf];omega),?_⟩
  refine ay.pure h1 ?_
  simp(disch:=omega)only[↓wr,seval,wq,t5,hu]
  refine aW.up g.rules.length (λk T H'=>∃(p:V) (a:List aN),aQ H' p 2 (bf a)/\ct H H' p/\cJ a/\(∀x∈a,oN g l x)/\(∀x∈out,x∈a)/\out.length<=a.length/\(a.length=out.length->a=out) /\
   (∀(q:Nat) (R:bc),q<k->G=true->s<0->g.rules[q]?=some R->R.left = -1-s->(⟨q,0⟩:aN)∈a)/\T 2=.aP (ak g) 0/\T 5=p/\T 7=gi i/\T 8=gi s/\T 9=gb G/\T 10=gi out.length/\T 11=gi k)
   ⟨r,out,D,fr,n,E,λx b=>b,aaQ _,λ_=>rfl,λq R hq=>by omega,t2,by rw[<-hu];exact t5,t7,rfl,rfl,rfl,rfl⟩ ?_
  clear D fr t2 t5 t7 t hu
  rintro k j T2 H2 hk ⟨p,a,O,I,c,d,v,S,o,w,t2,t5,t7,t8,t9,t10,t11⟩
  have U:∀x∈a,cT g x:=λx b=>(d x b).has hl
  have a8:=ll J c U
  have f:cE p=some a.length:=by rw[O.len,bR]
  have more:out.length<a.length->∀z:Env,z 2=.aP (ak g) 0->z 5=p->z 7=gi 0->∃k',k'<(300-out.length)*1000+(300-i)/\V2 g l H k' z H2:=λh z e2 e5 e7 =>
   ⟨(300-a.length)*1000+300,by omega,0,p,a,by omega,abY _,O,I,c,d,λx b=>v x (P x b),λj x hj=>by omega,e2,e5,e7⟩
  have stay:(G=true->s<0->g.rules.length<=k)->¬ out.length<a.length->∀z:Env,z 2=.aP (ak g) 0->z 5=p->z 7=gi ((i:Int)+1)->∃k',k'<(300-out.length)*1000+(300-i)/\V2 g l H k' z H2:=λal h z e2 e5 e7=>by
   have e:=o (by omega)
   subst e
   refine⟨(300-a.length)*1000+(300-(i+1)),by omega,i+1,p,a,rfl,by omega,O,I,c,d,P,λj x hj b=>?_,e2,e5,e7⟩
   rcases abg j i with an | an
   .exact ab j x an b
   .have:j=i:=by omega
    subst this
    rw[N] at b
    simp only[aaK] at b
    subst b
    intro s' q R h1 L A M
    rw[F] at h1
    simp only[aaN] at h1
    obtain⟨rfl,rfl⟩:=h1
    have:=(aaO.1 A).1
    exact w q R (by have:=al rfl L;omega) rfl L A M
  cases G with
  | false =>
   simp(disch:=omega)only[↓wr,seval,wq,jH,t5,t7,t9,t10,f]
   apply ao.dec<;>intro hg
   .simp(disch:=omega)only[↓wr,seval,wq,t5]
    exact more (by omega) _ t2 t5 rfl
   .simp(disch:=omega)only[↓wr,seval,wq,t5,t7]
    exact stay (λh=>by simp at h) (by omega) _ t2 t5 rfl
  | true =>
   simp(disch:=omega)only[↓wr,seval,wq,jH,t8,t9,ak]
   apply ao.dec<;>intro B
   .simp(disch:=omega)only[↓wr,seval,wq,t2,t11,ak]
    apply ao.dec<;>intro a1
    .have hR:g.rules[k]?=some (g.rules[k]'(by omega)):=aaH (by omega)
     have hL:=J.left _ (aaP (show k<g.rules.length by omega))
     generalize g.rules[k]'(by omega)=R at hR hL
     simp(disch:=omega)only[↓wr,seval,wq,t2,t8,t11,ak,aO,aaJ,hR]
     apply ao.eq<;>intro he
     .simp(disch:=omega)only[↓wr,seval,wq,t5,t11]
      refine ay.cw ((Eb p a (by omega) ⟨k,0⟩ H2 O).mono ?_)
      rintro r3 H3 ⟨o3,l3⟩
      simp(disch:=omega)only[↓wr,seval,wq,t7,t11]
      have aq:oN g l ⟨k,0⟩:=.step ae F B hR he
      refine aE hk (by omega) ⟨r3,eZ a ⟨k,0⟩,o3,I.step l3,qG c,λx b=>?_,λx b=>jW.2 (.inr (v x b)),by have:=ID a ⟨k,0⟩;omega,λh=>?_,λq R' hq L A M=>?_,t2,rfl,t7,t8,t9,t10,rfl⟩
      .rcases jW.1 b with rfl | b
       .exact aq
       .exact d x b
      .have a6:(⟨k,0⟩:aN)∈a:=acb λa7=>by
        have:=E3 a7;omega
       rw[Fj c a6] at h ⊢
       exact o h
      .rcases abg q k with C | C
       .exact jW.2 (.inr (w q R' C rfl L A M))
       .have:q=k:=by omega
        subst this
        exact jW.2 (.inl rfl)
     .simp(disch:=omega)only[↓wr,seval,wq,t5,t7,t11]
      refine aE hk (by omega) ⟨p,a,O,I,c,d,v,S,o,λq R' hq L A M=>?_,t2,t5,t7,t8,t9,t10,rfl⟩
      rcases abg q k with C | C
      .exact w q R' C rfl L A M
      .have:q=k:=by omega
       subst this
       rw[hR] at A
       simp only[aaK] at A
       subst A
       exact absurd M he
    .simp(disch:=omega)only[↓wr,seval,wq,t5,t7,t10,f]
     apply ao.dec<;>intro hg
     .simp(disch:=omega)only[↓wr,seval,wq,t5]
      exact more (by omega) _ t2 t5 rfl
     .simp(disch:=omega)only[↓wr,seval,wq,t5,t7]
      exact stay (λ_ _=>by omega) (by omega) _ t2 t5 rfl
   .simp(disch:=omega)only[↓wr,seval,wq,t5,t7,t10,f]
    apply ao.dec<;>intro hg
    .simp(disch:=omega)only[↓wr,seval,wq,t5]
     exact more (by omega) _ t2 t5 rfl
    .simp(disch:=omega)only[↓wr,seval,wq,t5,t7]
     exact stay (λ_ h=>absurd h B) (by omega) _ t2 t5 rfl
 .simp(disch:=omega)only[↓wr,seval,wq,t5]
  have bn:i=out.length:=by omega
  rw[DU J hl n E P (λx b s k R h1 L A M=>by
   obtain⟨j,hj,e⟩:=acj.1 b
   exact ab j x (by omega) (by rw[aaH hj,e]) s k R h1 L A M)]
  exact⟨D,fr⟩
theorem Pw (g:aj) (m:g.c5) (l:List aN) (t:cJ l) (v:∀x∈l,cT g x) (s:Int) (u:V) (H:View) (w:aQ H u 2 (bf l)):az aa 71 [.agg (ak g),u,gi s] H λr H'=>aQ H' r 2 (bf (bu g l s))/\ct H H' r:=by
 refine az.of mixed xU ?_
 have hlen:cE u=some l.length:=by rw[w.len];simp[bf]
 have hle:=ll m t v
 simp(disch:=omega)only[↓wr,seval,wq,rH,ak,encS]
 refine aW.up l.length (λi T H'=>∃(r:V),aQ H' r 2 (bf (bu g (l.take i) s))/\ct H H' r/\T 1=u/\T 2=gi s/\T 3=.aP (ak g) 0/\T 7=r/\T 8=gi i)
  ⟨.emp 1,.nil,.emp,rfl,rfl,rfl,rfl,rfl⟩ ?_
 rintro i k T H' hk ⟨r,h,fr,t1,t2,t3,t7,t8⟩
 simp(disch:=omega)only[↓wr,seval,wq,pq,t1,t8,hlen]
 apply ao.dec<;>intro B
 .have j:l[i]?=some (l[i]'(by omega)):=aaH (by omega)
  have b:=v _ (aaP (show i<l.length by omega))
  have a:=Tl (g:=g) t (show l[i]?=some (l[i]'(by omega)) from j) s
  generalize l[i]'(by omega)=y at j b a
  have h1:=Ed g m y b
  cases c:bI g y with
  | mk q n =>
  rw[c] at h1
  obtain⟨id,hu,f⟩:=w.sl (by simp[bf];omega)
  have d:H' id=.arr 2 (bf l):=by rw[(fr id (by rw[f];simp)).1,f]
  rw[bR] at hu
  have z:=b.2
  have L:=dY m b.1
  have o:=vH (g:=g) (l:=l.take i) (s:=s)
  simp only[abL] at o
  simp only[ak,encS,bK] at h1
  simp(disch:=omega)only[↓wr,seval,wq,t1,t3,t8,hu,d,sQ j,ak,encS]
  refine⟨by first | omega | (simp[bf];omega),by first | omega | (simp[bf];omega),?_⟩
  refine ay.pure h1 ?_
  have skip:¬ bI g y=(s,true)->∀e:Env,e 1=u->e 2=gi s->e 3=.aP (ak g) 0->e 7=r->e 8=gi ((i:Int)+1)->∃A,A<k/\EW l.length A (λi T H'=>∃(r:V),aQ H' r 2 (bf (bu g (l.take i) s))/\ct H H' r/\T 1=u/\T 2=gi s/\T 3=.aP (ak g) 0/\T 7=r/\T 8=gi i) e H':=λp e C D E F G=>by
   rw[aaI p] at a
   exact aE hk (by omega) ⟨r,by rw[a];exact h,fr,C,D,E,F,G⟩
  cases n with
  | false =>
   simp(disch:=omega)only[↓wr,seval,wq,t7,t8]
   exact skip (by rw[c];simp) _ t1 t2 t3 t7 rfl
  | true =>
   simp(disch:=omega)only[↓wr,seval,wq,t2]
   apply ao.eq<;>intro he
   .simp(disch:=omega)only[↓wr,seval,wq,t1,t7,t8,hu,d,sQ j]
    refine⟨by first | omega | (simp[bf];omega),by first | omega | (simp[bf];omega),?_⟩
    refine⟨by first | omega | (simp[bf];omega),by first | omega | (simp[bf];omega),?_⟩
    refine ay.cw ((Eb r (bu g (l.take i) s) (by omega) ⟨y.aB,y.dot+1⟩ H' h).mono ?_)
    rintro I M ⟨J,K⟩
    simp(disch:=omega)only[↓wr,seval,wq,t8]
    rw[aaL (by rw[c,he])] at a
    exact aE hk (by omega) ⟨I,by rw[a];exact J,fr.step K,t1,t2,t3,rfl,rfl⟩
   .simp(disch:=omega)only[↓wr,seval,wq,t7,t8]
    exact skip (by rw[c];simp[he]) _ t1 t2 t3 t7 rfl
 .simp(disch:=omega)only[↓wr,seval,wq,t7]
  rw[aaY (by omega)] at h
  exact⟨h,fr⟩
theorem Gu {g:aj} (a:g.c5) {i:Nat} (hi:i<g.ax.length+g.av.length) : -100<=bg g i/\bg g i<=100:=by
 have:=a.ax;have:=a.av
 unfold bg;split<;>omega
theorem MX (g:aj) (a:g.c5) (i:Nat) (hi:i<g.ax.length+g.av.length):aC aa 70 [.agg (ak g),gi i] (gi (bg g i)):=by
 refine aC.val (by
  intro v b;simp at b
  rcases b with rfl | rfl
  .exact bW _ (cB g)
  .exact .val _) λH=>?_
 have:=a.ax;have:=a.av
 refine az.of mixed vX ?_
 unfold bg
 simp(disch:=omega)only[↓wr,seval,wq,qk,ak,encS]
 apply ao.dec<;>intro h
 .simp(disch:=omega)only[↓wr,seval,wq]
  rw[aaL (by omega)]
 .simp(disch:=omega)only[↓wr,seval,wq]
  rw[aaI (by omega)]
theorem HB (l:List aN):Tree (.aZ (bf l)):=fg _ _ λx _ v a=>by simp[bK] at a;rcases a with rfl | rfl<;>exact .val _
theorem P6 (a b:List aN) (g:aI a) (j:aI b):aC aa 135 [.aZ (bf a),.aZ (bf b)] (gb (a==b)):=by
 unfold aI at g j
 refine aC.val (by
  intro v f;simp at f
  rcases f with rfl | rfl<;>exact HB _) λH=>?_
 refine az.of mixed xu ?_
 simp(disch:=omega)only[↓wr,seval,wq,rl,bf]
 apply ao.ne<;>intro h
 .simp(disch:=omega)only[↓wr,seval,wq]
  have:(a==b)=false:=by simp;rintro rfl;exact h rfl
  rw[this]
 .simp(disch:=omega)only[↓wr,seval,wq]
  refine aW.up a.length (λi T H'=>a.take i=b.take i/\T 0=.aZ (bf a)/\T 1=.aZ (bf b)/\T 5=gi i) ⟨rfl,rfl,rfl,rfl⟩ ?_
  rintro i k T H' hk ⟨he,t0,t1,t5⟩
  simp(disch:=omega)only[↓wr,seval,wq,pJ,t0,t5,bf]
  apply ao.dec<;>intro l
  .have d:a[i]?=some (a[i]'(by omega)):=aaH (by omega)
   have c:b[i]?=some (b[i]'(by omega)):=aaH (by omega)
   generalize a[i]'(by omega)=x at d
   generalize b[i]'(by omega)=y at c
   simp(disch:=omega)only[↓wr,seval,wq,t0,t1,t5,bf,aaJ,d,c,bK]
   refine km (xs:=#[.int .i64 x.aB,.int .i64 x.dot]) (ys:=#[.int .i64 y.aB,.int .i64 y.dot]) Tryz.underlying120 (by kernel_rfl) (by kernel_rfl) ?_ ?_ (sU x y) (.inr ⟨rfl,rfl⟩) ?_
   .rfl
   .rfl
   rw[AQ]
   simp(disch:=omega)only[↓wr,seval,wq]
   apply ao.dec<;>intro e
   .simp(disch:=omega)only[↓wr,seval,wq,t5]
    exact aE hk (by omega) ⟨by rw[aa2,aa2,he,d,c,e],t0,t1,rfl⟩
   .simp(disch:=omega)only[↓wr,seval,wq]
    have:(a==b)=false:=by
     simp;rintro rfl
     rw[d] at c;simp at c;exact e c
    rw[this]
  .simp(disch:=omega)only[↓wr,seval,wq]
   rw[aaY (by omega),aaY (by omega)] at he
   rw[he,beq_self_eq_true]
structure Zm where
 aB:Int
 set:BV
 deriving DecidableEq
def cD (g:aj):List ba × Int:=if isRed g=true then fR g 302 0 eu else ([],1)
structure eo (g:aj) (at_ i:Nat) (out:List ba):Prop where
 bz:∀s∈out,cJ s.bz/\s.bz≠[]/\∀x∈s.bz,cT g x
 cF:∀j s,out[j]?=some s->s.cF.length<=40/\(j=at_->s.cF.length<=i)/\(at_<j->s.cF=[])
 to:∀s∈out,∀e∈s.cF,0<=e.to/\e.to<out.length
 sym:∀s∈out,∀e∈s.cF,-1000<=e.sym/\e.sym<=1000
theorem mem_modify {α:Type} {l:List α} {i:Nat} {f:α->α} {y:α} (h:y∈l.modify i f):y∈l∨∃x,l[i]?=some x/\y=f x:=by
 obtain⟨j,a,e⟩:=acj.1 h
 simp only[List.length_modify] at a
 rw[List.getElem_modify] at e
 split at e
 .rename_i b
  subst b
  exact .inr ⟨l[i],aaH a,e.symm⟩
 .exact .inl (e▸aaP a)
theorem TC (g:aj) (l:List aN) (at_:Nat) (out:List ba) (i:Nat):out.length<=(dw g l at_ out i).length/\(dw g l at_ out i).length<=out.length+1:=by
 unfold dw
 split
 .omega
 .split
  .simp
  .simp
theorem eo.put {g:aj} {at_ i:Nat} {out:List ba} (h:eo g at_ i out) (hi:i<40) {s:Int} (c : -1000<=s/\s<=1000) {to:Int} (d:0<=to/\to<out.length):eo g at_ (i+1) (out.modify at_ λx=>(⟨x.bz,x.cF++[⟨s,to⟩]⟩:ba)):=by
 refine⟨λy a=>?_,λj y a=>?_,λy a e he=>?_,λy a e he=>?_⟩
 rotate_right
 .rcases mem_modify a with a | ⟨x,b,rfl⟩
  .exact h.sym y a e he
  .rcases aa0.1 he with he | he
   .exact h.sym x (aaV b) e he
   .simp at he;subst he;exact c
 .rcases mem_modify a with a | ⟨x,b,rfl⟩
  .exact h.bz y a
  .exact h.bz x (aaV b)
 .rw[List.getElem?_modify] at a
  cases b:out[j]? with
  | none=>rw[b] at a;simp at a
  | some x =>
   rw[b] at a
   have h1:=h.cF j x b
   by_cases e:at_=j
   .subst e
    simp at a
    subst a
    have:=h1.2.1 rfl
    refine⟨by simp;omega,λ_=>by simp;omega,λh=>by omega⟩
   .simp[e] at a
    subst a
    exact⟨h1.1,λh=>absurd h.symm e,h1.2.2⟩
 .rw[List.length_modify]
  rcases mem_modify a with a | ⟨x,b,rfl⟩
  .exact h.to y a e he
  .rcases aa0.1 he with he | he
   .exact h.to x (aaV b) e he
   .simp at he;subst he;exact d
theorem eo.up {g:aj} {at_ i:Nat} {out:List ba} (h:eo g at_ i out):eo g at_ (i+1) out:=
 ⟨h.bz,λj s a=>by have:=h.cF j s a;exact⟨this.1,λe=>by have:=this.2.1 e;omega,this.2.2⟩,h.to,h.sym⟩
theorem eo.add {g:aj} {at_ i:Nat} {out:List ba} (h:eo g at_ i out) {k:List aN} (hk:cJ k/\k≠[]/\∀x∈k,cT g x):eo g at_ i (out++[⟨k,[]⟩]):=by
 refine⟨λy a=>?_,λj y a=>?_,λy a e he=>?_,λy a e he=>?_⟩
 rotate_right
 .rcases aa0.1 a with a | a
  .exact h.sym y a e he
  .simp at a;subst a;simp at he
 .rcases aa0.1 a with a | a
  .exact h.bz y a
  .simp at a;subst a;exact hk
 .rcases abg j out.length with b | b
  .rw[abf b] at a;exact h.cF j y a
  .rw[abN b] at a
   cases c:j-out.length with
   | zero=>rw[c] at a;simp at a;subst a;exact⟨by simp,λ_=>by simp,λ_=>rfl⟩
   | succ q=>rw[c] at a;simp at a
 .rcases aa0.1 a with a | a
  .have:=h.to y a e he;simp;omega
  .simp at a;subst a;simp at he
theorem eo.step {g:aj} {l:List aN} (c:cJ l) (d:∀x∈l,cT g x) {at_ i:Nat} {out:List ba} (h:eo g at_ i out) (hi:i<40):eo g at_ (i+1) (dw g l at_ out i):=by
 unfold dw
 split
 .exact h.up
 .rename_i a
  have b : -1000<=bg g i/\bg g i<=1000:=by unfold bg;split<;>omega
  split
  .exact(h.add ⟨I5 _ c,a,Kz d⟩).put hi b (by simp;omega)
  .have:=zJ out (bu g l (bg g i))
   exact h.put hi b ⟨by omega,this⟩
theorem eo.next {g:aj} {at_ i:Nat} {out:List ba} (h:eo g at_ i out):eo g (at_+1) 0 out:=
 ⟨h.bz,λj s a=>by
  have:=h.cF j s a
  exact⟨this.1,λe=>by have:=this.2.2 (by omega);simp[this],λe=>this.2.2 (by omega)⟩,h.to,h.sym⟩
theorem eo.row {g:aj} {l:List aN} (a:cJ l) (b:∀x∈l,cT g x) {at_:Nat} {out:List ba} (h:eo g at_ 0 out):∀n:Nat,n<=40->eo g at_ n ((List.range n).foldl (dw g l at_) out)/\out.length<=((List.range n).foldl (dw g l at_) out).length/\((List.range n).foldl (dw g l at_) out).length<=out.length+n
 | 0,_=>⟨h,aaQ _,aaQ _⟩
 | n+1,c=>by
  obtain⟨h1,d,e⟩:=eo.row a b h n (by omega)
  rw[ab9,ace]
  simp only[abr,acH]
  have:=TC g l at_ ((List.range n).foldl (dw g l at_) out) n
  exact⟨h1.step a b (by omega),by omega,by omega⟩
theorem mF {g:aj} : eo g 0 0 eu:=by
 refine⟨λs a=>?_,λj s a=>?_,λs a e he=>?_,λs a e he=>?_⟩
 rotate_right
 .simp[eu] at a;subst a;simp at he
 .simp[eu] at a;subst a
  refine⟨by simp[cJ],by simp,λx b=>?_⟩
  simp at b;subst b
  exact⟨⟨by simp,by simp only;omega⟩,by simp,by simp[bV]⟩
 .have:=aaV a
  simp[eu] at this;subst this;simp
 .simp[eu] at a;subst a;simp at he
theorem eo.nQ {g:aj} (a:g.c5) {at_ i:Nat} {out:List ba} (h:eo g at_ i out) {j:Nat} (b:j<out.length):cJ (dp g (out.getD j bY).bz)/\∀x∈dp g (out.getD j bY).bz,cT g x:=by
 have hm:=aaV (getD_some (d:=bY) b)
 exact⟨uK _ _,λx c=>((gO a (h.bz _ hm).2.2).1 c).has (h.bz _ hm).2.2⟩
structure JB (g:aj) (a:List ba):Prop where
 bz:∀s∈a,cJ s.bz/\s.bz≠[]/\∀x∈s.bz,cT g x
 cF:∀s∈a,s.cF.length<=40
 to:∀s∈a,∀e∈s.cF,0<=e.to/\e.to<a.length
 sym:∀s∈a,∀e∈s.cF,-1000<=e.sym/\e.sym<=1000
theorem eo.ok {g:aj} {at_ i:Nat} {out:List ba} (h:eo g at_ i out):JB g out:=
 ⟨h.bz,λs a=>by obtain⟨j,b,e⟩:=acj.1 a;exact(h.cF j s (by rw[aaH b,e])).1,h.to,h.sym⟩
theorem LC {g:aj} (b:g.c5):∀(f at_:Nat) (out:List ba),eo g at_ 0 out->1<=out.length->out.length<=300->(fR g f at_ out).2=0->JB g (fR g f at_ out).1/\1<=(fR g f at_ out).1.length/\(fR g f at_ out).1.length<=300
 | 0,_,out,h,h1,c,_=>⟨h.ok,h1,c⟩
 | f+1,at_,out,h,h1,c,a=>by
  rw[fR] at a ⊢
  split
  .rename_i d
   rw[aaL d] at a
   have hr:=eo.row (h.nQ b d).1 (h.nQ b d).2 h (g.ax.length+g.av.length) (by have:=b.ax;have:=b.av;omega)
   rw[show (List.range (g.ax.length+g.av.length)).foldl (dw g (dp g (out.getD at_ bY).bz) at_) out=xq g at_ out (g.ax.length+g.av.length) from rfl] at hr
   split
   .rename_i e;rw[aaL e] at a;simp at a
   .rename_i e
    rw[aaI e] at a
    exact LC b f (at_+1) _ hr.1.next (by omega) (by omega) a
  .exact⟨h.ok,h1,c⟩
theorem US {g:aj} (a:g.c5) (h:(cD g).2=0):JB g (cD g).1/\1<=(cD g).1.length/\(cD g).1.length<=300:=by
 unfold cD at h ⊢
 split
 .rename_i hr
  rw[aaL hr] at h
  exact LC a 302 0 eu mF (by simp[eu]) (by simp[eu]) h
 .rename_i hr
  rw[aaI hr] at h
  simp at h
end
end Gv
