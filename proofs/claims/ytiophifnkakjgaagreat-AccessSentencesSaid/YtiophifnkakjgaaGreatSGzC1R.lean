/-
  Part 18 of the proof: what the machine does and what the functions answer.
  Conditions: those that each lemma names.
-/
import Derived.Test.YtiophifnkakjgaaGreatSGzC1Q
set_option linter.unusedSimpArgs false
set_option linter.unusedVariables false
set_option maxRecDepth 100000
set_option maxHeartbeats 20000000
namespace Gv
open Go Go.Proofs
theorem cR.two {H:View} {q:Nat} {v1 v2 t1 t2:V} (b:H q=.arr 1 [[v1],[v2]]) (h1:cR H v1 t1) (c:cR H v2 t2):cR H (.sl q 0 2 1) (.aU [[t1],[t2]]):=by
 rintro h rfl
 refine .sl q 0 2 1 1 [[v1],[v2]] [[t1],[t2]] b (by simp) rfl (λi hi=>?_) (λi j hi a=>?_)
 .match i,hi with
  | 0,_=>rfl
  | 1,_=>rfl
 .match i,hi with
  | 0,_ =>
   have:j=0:=by simp at a;omega
   subst this
   exact h1 h rfl
  | 1,_ =>
   have:j=0:=by simp at a;omega
   subst this
   exact c h rfl
theorem tN (x y:List Int) (a:x.length+y.length<=1000000):cK Tryz.prog 68 [.aU [[encI x],[encI y]]] (encI (x ++ y)):=by
 have:=TO [x,y] (by simp;omega) (by simp)
 simpa using this
theorem bY.Zf {g:af} {a:List aJ} (b:bY g a) (d:a.length<=300):∀ s∈a,aK s.bO/\∀ e∈s.bO,bM e.sym/\bM e.to:=λs c=>⟨by have:=b.ok.bO s c;unfold aK;omega,λe he=>by
 have h1:=b.ok.sym s c e he
 have f:=b.ok.to s c e he
 unfold bM;omega⟩
theorem fJ.up {H:View} {b:Nat} {g:af} {a:List aJ} {l:List bQ} {B B':Nat} {K:List dH} (h:fJ H b g a l B K) (f:B<=B'):fJ H b g a l B' K:=by
 obtain⟨q,us,d,S,m,c,w⟩:=h
 exact⟨q,us,d,S,m,c,w.own,w.map,w.born,λk=>by
  obtain⟨n,h1,i,e⟩:=w.seen k
  exact⟨n,h1,by omega,e⟩,w.is,w.ok⟩
theorem fJ.fresh {H:View} {b:Nat} {g:af} {a:List aJ} {l:List bQ} {B:Nat} {K:List dH} (h:fJ H b g a l B K) {n:Nat} (d:H n=.dead) {o:dG} : fJ (H.set n o) b g a l B K:=by
 obtain⟨q,us,e,S,m,c,w⟩:=h
 refine⟨q,us,e,S,m,c,w.own.fresh d,?_,w.born,w.seen,w.is,w.ok⟩
 have:¬ q=n:=by rintro rfl;have:=w.map;rw[d] at this;simp at this
 simp[View.set,this,w.map]
theorem fJ.stay {H H':View} {b:Nat} {g:af} {a:List aJ} {l:List bQ} {B:Nat} {K:List dH} (h:fJ H b g a l B K) (hk:∀ id,H id≠.dead->H' id=H id):fJ H' b g a l B K:=by
 obtain⟨q,us,d,S,m,c,w⟩:=h
 exact⟨q,us,d,S,m,c,w.own.stay hk,by rw[hk q (by rw[w.map];simp)];exact w.map,w.born,w.seen,w.is,w.ok⟩
theorem EC {α:Type} {x y z e:α} {K:List α} : (x :: y :: z :: e :: K).Perm (e :: x :: y :: z :: K):=abF (l₁:=[x,y,z])
theorem fJ.drop {H:View} {b:Nat} {g:af} {a:List aJ} {l:List bQ} {B:Nat} {e:dH} {K:List dH} (h:fJ H b g a l B (e :: K)):fJ H b g a l B K:=by
 obtain⟨q,us,d,S,m,c,w⟩:=h
 exact⟨q,us,d,S,m,c,(w.own.perm EC).tail,w.map,w.born,w.seen,w.is,w.ok⟩
theorem fJ.add {H:View} {b:Nat} {g:af} {a:List aJ} {l:List bQ} {B:Nat} {K:List dH} (h:fJ H b g a l B K) {H':View} {u:V} {sz:Nat} {es:List (List V)} (e:aT H' u sz es) (d:c8 H H' u):fJ H' b g a l B ((u,sz,es) :: K):=by
 obtain⟨q,us,f,S,m,c,w⟩:=h
 exact⟨q,us,f,S,m,c,(w.own.Gr e d).perm EC.symm,by rw[(d q (by rw[w.map];simp)).1];exact w.map,w.born,w.seen,w.is,w.ok⟩
theorem fJ.box {H:View} {b:Nat} {g:af} {a:List aJ} {l:List bQ} {B:Nat} {K:List dH} (h:fJ H b g a l B K):∃ q us d,H b=.arr 8 [tg g a q us d]:=by
 obtain⟨q,us,d,S,m,c,w⟩:=h
 exact⟨q,us,d,w.own.is 2 rfl (by simp)⟩
def nh:SC :=
 ae [ab [aQ 66 .lss 65 64],bX 66 (.exit 0),.block 1 (ae [ab [aa 67 65,aO 68 3 63 65,aZ 69 3 68,((some 10),.op (.alloc [(.val (.int .i64 0)),(.emp 1),(.val (.int .i64 0))])),aa 9 67,cD 3 10 69],ab [ao 70 0 10,ak 71 70,aa 72 5,((some 73),.op (.arith .sub (.val (.val (.int .i64 (-1)))) (.tmp 72))),aQ 74 .eql 71 73],bb 74 (ab [aa 75 0,ao 76 0 3,ao 77 0 76,ak 78 77,aa 79 9,((some 80),.op (.build [(.val (.int .i64 0)),(.val (.int .i64 0))] [(0,1,(.tmp 79))])),((some 81),.op (.build [(.val (.int .i64 0)),(.val (.int .i64 0)),(.val (.int .i64 0))] [(0,1,(.tmp 78)),(1,2,(.tmp 80))])),ao 82 3 3,ak 83 82,aa 84 4,((some 85),.op (.slice 1 (.tmp 84) (some (.val (.val (.int .i64 1)))) none)),ao 86 4 3,ak 87 86,((some 88),.op (.bJ 2 1 [(.emp 1)] [(0,(.tmp 85)),(1,(.tmp 87))])),((some 89),.vQ (.val (.fn 68 [] [])) [(.tmp 88)]),((some 90),.op (.build [(.val (.int .i64 0)),(.val (.int .i64 0)),(.val (.int .i64 0)),(.emp 1),(.emp 1)] [(0,3,(.tmp 81)),(3,1,(.tmp 83)),(4,1,(.tmp 89))])),bk 91 125 [75,90]])]),ab [aF 92 .add 65 1,aa 65 92]]
def oU:SF:=⟨ae [ab [cF 3 1],ab [aa 11 0,ao 12 0 3,ao 13 1 12,aZ 14 2 13,bk 15 127 [11,14],aa 4 15],ae [ab [aa 16 4,aN 17 16,aF 18 .eql 17 0],bb 18 (.ret)],ab [aa 19 4,((some 20),.op (.idx 1 (.tmp 19) (.val (.val (.int .i64 0))))),ak 21 20,aa 5 21],ab [aa 23 0,fh 24 23,ao 25 4 24,ak 26 25,ao 27 0 3,ao 28 0 27,ak 29 28,aa 30 4,((some 31),.op (.slice 1 (.tmp 30) none (some (.val (.val (.int .i64 1)))))),bk 32 193 [26,29,31],aa 22 32,dr 33 0 22,dr 34 1 22,aa 6 33,aa 7 34],ab [ao 35 0 3,ao 36 1 35,ao 37 0 36,ak 38 37,ao 39 0 3,ao 40 1 39,ao 41 1 40,ak 42 41,aF 43 .add 42 1,((some 44),.op (.build [(.val (.int .i64 0)),(.val (.int .i64 0))] [(0,1,(.tmp 38)),(1,1,(.tmp 43))])),((some 8),.op (.alloc [(.val (.int .i64 0)),(.val (.int .i64 0))])),cD 2 8 44],ab [aa 45 0,aa 46 6,aZ 47 2 8,((some 48),.op (.build [(.val (.int .i64 0)),(.val (.int .i64 0)),(.val (.int .i64 0))] [(0,1,(.tmp 46)),(1,2,(.tmp 47))])),ao 49 3 3,ak 50 49,aa 51 4,((some 52),.op (.slice 1 (.tmp 51) none (some (.val (.val (.int .i64 1)))))),((some 53),.op (.bJ 2 1 [(.emp 1)] [(0,(.tmp 50)),(1,(.tmp 52))])),((some 54),.vQ (.val (.fn 68 [] [])) [(.tmp 53)]),ao 55 4 3,ak 56 55,((some 57),.op (.build [(.val (.int .i64 0)),(.val (.int .i64 0)),(.val (.int .i64 0)),(.emp 1),(.emp 1)] [(0,3,(.tmp 48)),(3,1,(.tmp 54)),(4,1,(.tmp 56))])),bk 58 125 [45,57]],ab [aa 59 0,fh 60 59,ao 61 0 60,ao 62 2 61,ak 63 62,aN 64 63,aR 65 0],bZ 0 nh],
 [],93⟩
theorem vA:aP Tryz.prog 126 [3,200054,200089]=some oU:=by kernel_rfl
theorem Vp (g:af) (hg:g.Ok) (a:List aJ) (D:bY g a) (h3:a.length<=300) (b:Nat) (l:List bQ) (hl:kf g a l) (s:vo) (hs:s.Ok) (i:Nat) (hi:l[i]?=some s.n) (B:Nat) (hB:B < 100000000) (K:List dH) (H:View) (hW:fJ H b g a l B K) :
  aw Tryz.prog 126 [.ptr b 0 0,.agg (jE s)] H λ_ H'=>fJ H' b g a (jO g a l s.n) (B+41) K:=by
 have U:=D.de
 have hT:=U.ai;have hN:=U.al;have cv:=U.rules
 have f:=hl.nd s.n (aaI hi)
 have A:=D.has f.lt f.it
 have cN:=hl.len i s.n hi
 have cS:=(aaR.1 hi).1
 have cV:=hl.short D h3
 have da:=f.small D
 have cA:=mN U
 have b4:=A
 obtain⟨⟨db,dj⟩,dm,ds⟩:=b4
 obtain⟨⟨E,F,dv⟩,⟨W,X,ea⟩⟩:=And.intro hs.a.fL hs.b.fL
 obtain⟨q,us,uf,hb⟩:=hW.box
 have p:=MZ g (by unfold bM;omega) a q us uf b H hb s.n.it A
 simp only[bu] at p
 have G:aK a:=by unfold aK;omega
 refine aw.of mixed vA ?_
 simp(disch:=omega)only[↓wr,seval,wq,oU,jE,E,F,W,X]
 refine ax.eM (p.mono ?_)
 clear p
 rintro u H1 ⟨hu,Y⟩
 have a7:cT u=some (fW g s.n.it).length:=by
  rcases hu with rfl | ⟨n,x,d,rfl,_⟩
  .simp[encI,cT]
  .rfl
 have a8:(fW g s.n.it).length=(aM g s.n.it.au).length - s.n.it.dot.toNat:=by unfold fW;simp
 simp(disch:=omega)only[↓wr,seval,wq,a7]
 apply aj.eq<;>intro he
 .simp(disch:=omega)only[↓wr,seval,wq]
  have J:(aW g s.n.it).2=false:=by
   unfold aW
   rw[aaF (by omega)]
  have:jO g a l s.n=l:=by
   unfold jO
   rw[aaD (by rw[J];simp)]
  rw[this]
  exact(hW.stay λid Z=>(Y id Z).1).up (by omega)
 obtain⟨y,J⟩:∃ y,aW g s.n.it=(y,true):=by
  unfold aW
  rw[aaD (by omega)]
  exact⟨_,rfl⟩
 obtain⟨f1,f2⟩:=sx A J
 have b5:jO g a l s.n=qz g s.n y g.rules.length (lz l ⟨er a s.n.st y,⟨s.n.it.au,s.n.it.dot+1⟩,s.n.ah ++ [y],s.n.be⟩):=by
  unfold jO
  rw[J,aaF rfl]
 rw[b5]
 rw[f1] at hu a7 a8
 obtain⟨s1,s2,s3,s4⟩:=D.step f.lt f.it J
 obtain⟨_,_,_,_,_,b7⟩:=D.er s1
 have an:dL g y=true:=rH U A J
 have b8 : -100<=y/\y<=100:=by
  unfold dL at an
  split at an <;> simp at an <;> omega
 have cC:(cP g s.n.it).length<=6:=by
  have:=dS U (r:=s.n.it.au) ⟨by omega,by omega⟩
  simp only[aaN] at a8
  omega
 obtain⟨m1,m2,m3⟩:=LI D hl (f.move D J) (by simp only[aa4,aaN,aa8];omega) (by simp only;omega)
 have hle:l.length<=(lz l ⟨er a s.n.st y,⟨s.n.it.au,s.n.it.dot+1⟩,s.n.ah ++ [y],s.n.be⟩).length:=by obtain⟨t,ht⟩:=m2;rw[ht];simp
 have b9:=λk hk=>JT D f J k _ hk m1 (by omega) (by omega)
 have aq:=UA a G (D.Zf h3) s.n.st [y] (by unfold aK;simp)
 rw[b7] at aq
 have L:=tN s.n.ah [y] (by simp;omega)
 have M:=tN (cP g s.n.it) s.n.be (by omega)
 generalize bd:cP g s.n.it=rs at *
 have ar:∃ N O P,(u=encI (y :: rs)∨∃ n,u=.sl n 0 1 1/\H1 n=.arr 1 [[gi y]])/\dA 1 u none (some (gi 1))=some (O,.none,[])/\dA 1 u (some (gi 1)) none=some (P,.none,[])/\aI O=true/\V.cells O=[O]/\aI P=true/\V.cells P=[P] /\
   (∀ H' e1 e2 e3,bq H' (e1 :: e2 :: e3 :: N)->cR H' O (encI [y])/\cR H' P (encI rs))/\(∀ H' l B,fJ H' b g a l B N->fJ H' b g a l B K)/\fJ H1 b g a l B N:=by
  rcases hu with rfl | ⟨n,x,d,rfl,h2,h4,h5⟩
  .refine⟨K,encI [y],encI rs,.inl rfl,?_,?_,rfl,rfl,rfl,rfl,λH' _ _ _ _=>⟨.tree (cx _),.tree (cx _)⟩,λ_ _ _ h=>h,hW.stay λid Z=>(Y id Z).1⟩
   .exact P8 (l:=y :: rs) (k:=1) (by simp)
   .exact yP (l:=y :: rs) (k:=1) (by simp)
  .match d,h4 with
   | 0,_ =>
    simp only[abP,List.cons.injEq] at h5
    obtain⟨rfl,rfl⟩:=h5
    refine⟨(.sl n 0 1 1,1,[[gi y]]) :: K,.sl n 0 1 1,.sl n 1 0 1,.inr ⟨n,rfl,h2⟩,?_,?_,rfl,rfl,rfl,rfl,λH' e1 e2 e3 ho=>?_,λ_ _ _ h=>h.drop,hW.add (.inr ⟨n,rfl,h2⟩) Y⟩
    .exact pG (sz:=1) (id:=n) (off:=0) (k:=1) (m:=1) (by omega)
    .exact qy (sz:=1) (id:=n) (off:=0) (k:=1) (m:=1) (by omega)
    .have hH:=ho.is 3 rfl (by simp)
     have t:∀ e∈[[gi y]],∀ v∈e,Tree v:=by intro e he v hv;simp at he;subst he;simp at hv;subst hv;exact .val _
     have r1:vU H' (.sl n 0 [y].length 1) [y]:=.inr ⟨n,y,0,rfl,hH,by omega,rfl⟩
     have r2:vU H' (.sl n 1 ([]:List Int).length 1) []:=.inr ⟨n,y,1,rfl,hH,by omega,rfl⟩
     exact⟨r1.pK,r2.pK⟩
   | 1,_=>simp at h5
 obtain⟨N,O,P,ca,I,bl,c1,c2,c3,c4,cc,bn,a1⟩:=ar
 clear hW hu
 obtain⟨q1,eb,ec,br⟩:=a1.box
 have z:∀ H' l B,fJ H' b g a l B N->cR H' O (encI [y])/\cR H' P (encI rs):=λH' l B h=>by
  obtain⟨q,us,uf,S,m,c,w⟩:=h
  exact cc H' _ _ _ w.own
 have cf:vo.Ok ⟨⟨er a s.n.st y,⟨s.n.it.au,s.n.it.dot+1⟩,s.n.ah ++ [y],s.n.be⟩,encI (s.n.ah ++ [y]),s.b⟩:=⟨.inl rfl,hs.b⟩
 have cg:∀ k:Nat,vo.Ok ⟨⟨s.n.st,⟨k,0⟩,s.n.ah,rs ++ s.n.be⟩,s.a,encI (rs ++ s.n.be)⟩:=λk=>⟨hs.a,.inl rfl⟩
 have Q:=bl
 obtain⟨u',bs⟩:∃ u',u=u':=⟨u,rfl⟩
 rw[bs] at Q
 have a6:∀ (x:Int) (t:Bool),Bq (.bf [gi x,gb t]):=λx t=>.bf _ λi hi=>by
  match i,hi with
  | 0,_=>exact⟨_,rfl⟩
  | 1,_=>exact⟨_,rfl⟩
 have ch:∀ k:Nat,k < g.rules.length->g.rules[k]?=some (aA g k):=λk hk=>by unfold aA;exact getD_some (by simpa using hk)
 simp only[encI] at aq L M
 rcases ca with rfl | ⟨n,rfl,cj⟩
 focus
  simp only[encI,bH,aa9] at I bl
  simp(disch:=omega)only[↓wr,seval,wq,jE,encI,br,I,aa5]
 rotate_left
 focus
  simp(disch:=omega)only[↓wr,seval,wq,jE,encI,br,cj,I]
 all_goals (
  refine ax.B5 aq (by kernel_rfl) (a6 _ _) ⟨.tree (lj a),.tree (.val _),(z _ _ _ a1).1,trivial⟩ ?_
  simp(disch:=omega)only[↓wr,seval,wq,jE]
  intro n8 bx
  have w2:=a1.fresh (o:=.arr 2 [[gi s.n.it.au,gi (s.n.it.dot+1)]]) bx
  simp(disch:=omega)only[↓wr,seval,wq,jE,I,c1,c2,E,F]
  rw[set_set]
  intro n9 C
  obtain⟨ck,C⟩:=cq C cm
  obtain⟨_,C⟩:=cq C cm
  have w3:=w2.fresh (n:=n9) (o:=.arr 1 [[s.a],[O]]) (by simp[View.set,ck,C])
  try simp(disch:=omega)only[↓wr,seval,wq,jE]
  refine ax.ub L (by kernel_rfl) ⟨cR.two (by simp[View.set]) hs.a.pK (z _ _ _ w3).1,trivial⟩ ?_
  simp(disch:=omega)only[↓wr,seval,wq,jE,W,X]
  have hm:=Gn g a b l B (by omega) (by omega) _ cf s4 N _ w3
  simp only[jE,encI] at hm
  refine ax.eM (hm.mono ?_)
  clear hm
  rintro _ H5 w5
  obtain⟨q5,ee,eg,b0⟩:=w5.box
  simp(disch:=omega)only[↓wr,seval,wq,b0]
  refine ba.up g.rules.length (λk T H'=>fJ H' b g a (qz g s.n y k (lz l ⟨er a s.n.st y,⟨s.n.it.au,s.n.it.dot+1⟩,s.n.ah ++ [y],s.n.be⟩)) (B+1+k) N/\T 0=.ptr b 0 0/\T 3=.aL (jE s) 0/\T 4=u'/\T 5=gi y/\T 63=.aU (g.rules.map bg)/\T 64=gi g.rules.length/\T 65=gi k)
   ⟨w5,rfl,rfl,bs,rfl,rfl,rfl,rfl⟩ ?_
  clear w2 w3 w5 b0 bx C
  rintro k kk T H6 b1 ⟨w6,t0,t3,t4,t5,t63,t64,t65⟩
  simp(disch:=omega)only[↓wr,seval,wq,nh,t0,t3,t4,t5,t63,t64,t65]
  apply aj.dec<;>intro hc
  .have hR:=ch k (by omega)
   have cr:=U.left _ (aaI hR)
   generalize b2:aA g k=R at hR cr
   simp(disch:=omega)only[↓wr,seval,wq,t0,t3,t4,t5,t63,t64,t65,aaE,hR,aaH,bg,encI]
   intro n10 b3
   have w7:=w6.fresh (o:=.arr 3 [bg R]) b3
   apply aj.eq<;>intro e
   .simp(disch:=omega)only[↓wr,seval,wq,t0,t3,t4,t5,t63,t64,t65,Q,jE,E,F,W,X,c3,c4]
    intro n11 j
    obtain⟨cu,j⟩:=cq j cm
    obtain⟨_,j⟩:=cq j cm
    have w8:=w7.fresh (n:=n11) (o:=.arr 1 [[P],[s.b]]) (by simp[View.set,cu,j])
    rw[set_set]
    try simp(disch:=omega)only[↓wr,seval,wq,t0,t3,t4,t5,t63,t64,t65,jE]
    refine ax.ub M (by kernel_rfl) ⟨cR.two (by simp[View.set]) (z _ _ _ w8).2 hs.b.pK,trivial⟩ ?_
    simp(disch:=omega)only[↓wr,seval,wq,t0,t3,t4,t5,t63,t64,t65,jE,E,F]
    obtain⟨r1,_,_⟩:=b9 k (by omega)
    have ei:=r1.short D h3
    have hm:=Gn g a b _ (B+1+k) (by omega) (by omega) _ (cg k) f.lt N _ w8
    simp only[jE,encI] at hm
    refine ax.eM (hm.mono ?_)
    clear hm
    rintro _ H9 w9
    simp(disch:=omega)only[↓wr,seval,wq,t0,t3,t4,t5,t63,t64,t65]
    refine aG b1 (by omega) ⟨?_,t0,t3,t4,t5,t63,t64,rfl⟩
    rw[qz,aaF (by rw[b2];exact e),bd]
    exact w9
   .simp(disch:=omega)only[↓wr,seval,wq,t0,t3,t4,t5,t63,t64,t65]
    refine aG b1 (by omega) ⟨?_,t0,t3,t4,t5,t63,t64,rfl⟩
    rw[qz,aaD (by rw[b2];exact e)]
    have w9:=w7.up (B':=B+1+(k+1)) (by omega)
    try rw[set_set]
    exact w9
  .simp(disch:=omega)only[↓wr,seval,wq,t0]
   obtain rfl:k=g.rules.length:=by omega
   exact(bn _ _ _ w6).up (by omega))
section
variable {P:Program} {T:Env} {H:View} {K:V->View->Prop} {w:cX (T,H,K)} {t t1 e ty:TypeId}
theorem OC {d x:Operand} {id off len sz bytes s:Nat} {z:List V} {es xs:List (List V)} {rd:List Nat} (he:qD P t=some (sz,bytes,z)) (g:ev T d=.sl id off len sz) (h:bR H (ev T x)=some (xs,rd)) (hH:H id=.arr s es) (i:off+len<=es.length)
  (j:(xs.all λe=>e.length == sz && e.all aI)=true) (k:(xs.take len).isEmpty=false) (hk:K (gG (xs.take len).length) (H.set id (.arr sz (eN es off (xs.take len))))) :
  jI P (.call { callee:=.builtin .copy,args:=#[d,x],argTypes:=#[t,t1] }) ty T H K w:=by
 obtain⟨e,ti,a,hi,b,m,l,f,c,rfl,rfl⟩:=kY he
 intro n _
 refine⟨gG (xs.take len).length,.fU id (.arr ti.size (eN es off (xs.take len))),id :: rd,?_,hk⟩
 simp only[sI,cH,oper]
 simp[y0,a,g,h,cT,b,k,hH,i,c,j]
theorem Vy {d x:Operand} {k:Nat} {sz bytes:Nat} {z:List V} {xs:List (List V)} {rd:List Nat} (he:qD P t=some (sz,bytes,z)) (f:ev T d=.emp k) (g:bR H (ev T x)=some (xs,rd)) (hk:K (gG 0) H) :
  jI P (.call { callee:=.builtin .copy,args:=#[d,x],argTypes:=#[t,t1] }) ty T H K w:=by
 obtain⟨e,ti,a,hi,b,j,h,c,i,rfl,rfl⟩:=kY he
 intro n _
 refine⟨gG 0,.none,[],?_,hk⟩
 simp only[sI,cH,oper]
 simp[y0,a,f,g,cT,b]
end
theorem wO:∀ (xs A B:List (List V)),xs.length<=B.length->eN (A ++ B) A.length xs=A ++ xs ++ B.drop xs.length
 | [],A,B,_=>by simp[eN]
 | x :: r,A,[],h=>by simp at h
 | x :: r,A,b :: B,h=>by
  rw[eN,List.set_append_right _ _ (aaM _),Nat.sub_self,List.set_cons_zero]
  have:=wO r (A ++ [x]) B (by simpa using h)
  simpa using this
theorem MA {id off k m:Nat} (hm:m<=k):dA 1 (.sl id off k 1) (some (gi m)) none=some (.sl id (off+m) (k - m) 1,.none,[]):=by
 simp[dA,bound,asNat,hm]
def u64 (n:Int):V:=.val (.int .u64 n)
noncomputable def S9:List (FuncId × DF):=zf Tryz.prog [(180,[]),(237,[])]
theorem Uf:rW Tryz.prog S9:=uR _ _
noncomputable def YR (n:Nat):Bool:=match uy Tryz.prog S9 (Pl []) 180 [u64 1,u64 n] with
 | some (.bf [.val (.int .u64 a),.val (.int .u64 b)])=>a == 0 && b == n
 | _=>false
theorem Xe:(List.range 321).all YR=true:=by kernel_rfl
theorem WH {n:Nat} (h:n<=320):az Tryz.prog 180 [u64 1,u64 n] (.bf [u64 0,u64 n]):=by
 have c:=aaZ.1 Xe n (abA.2 (by omega))
 unfold YR at c
 split at c
 .rename_i a b he
  simp only[aaK,abB] at c
  obtain⟨rfl,rfl⟩:=c
  exact(pL mixed Uf (Kv (l:=[]) (by simp)) (by intro v d;simp at d;rcases d with rfl | rfl <;> exact .val _) he).pure
 .simp at c
def gT:SC :=
 ae [ae [ab [aa 34 8,aa 35 7,aN 36 35,aQ 37 .lss 34 36],bX 37 (.exit 0)],.block 1 (ab [aa 38 8,aa 39 7,aa 40 8,((some 41),.op (.slice 1 (.tmp 39) (some (.tmp 40)) none)),aa 42 7,aa 43 8,((some 44),.op (.slice 1 (.tmp 42) none (some (.tmp 43)))),((some 45),.op (.old (.call { callee:=.builtin .copy,args:=#[(.tmp 41),(.tmp 44)],argTypes:=#[27,27] }) 3)),aQ 46 .add 38 45,aa 8 46])]
def k8:SF:=⟨ae [ab [bT 4 1],ae [ab [aa 9 1,aF 10 .lss 9 0],bb 10 (.region false [⟨none,[((some 11),.op (.old (.makeInterface 9 (.const (.string ⟨#[99,97,110,110,111,116,32,98,101,32,110,101,103,97,116,105,118,101]⟩))) 20)),(none,.op (.old (.panic (.tmp 11)) 0))]⟩])],ab [aa 13 0,aN 14 13,((some 15),.op (.conv .u64 (.tmp 14))),aa 16 1,((some 17),.op (.conv .u64 (.tmp 16))),bk 18 180 [15,17],aa 12 18,dr 19 0 12,dr 20 1 12,aa 5 19,aa 6 20],ae [.region false [⟨none,[aa 21 5,((some 22),.op (.arith .gtr (.tmp 21) (.val (.val (.int .u64 0))))),aa 23 22]⟩,⟨(some (23,false)),[aa 24 6,((some 25),.op (.arith .gtr (.tmp 24) (.val (.val (.int .u64 9223372036854775807)))))]⟩,⟨none,[cy 26 23 25]⟩],bb 26 (.region false [⟨none,[((some 27),.op (.old (.makeInterface 9 (.const (.string ⟨#[116,104,101,32,114,101,115,117,108,116,32,111,102,32,40,108,101,110,40,120,41,32,42,32,99,111,117,110,116,41,32,111,118,101,114,102,108,111,119,115]⟩))) 20)),(none,.op (.old (.panic (.tmp 27)) 0))]⟩])],ab [aa 28 6,((some 29),.op (.conv .i64 (.tmp 28))),((some 30),.op (.make 1 8 [(.val (.int .i64 0))] (.tmp 29) (.tmp 29))),aa 7 30],ab [aa 31 7,aa 32 0,((some 33),.op (.old (.call { callee:=.builtin .copy,args:=#[(.tmp 31),(.tmp 32)],argTypes:=#[27,27] }) 3)),aa 8 33],bZ 0 gT,ab [aa 47 7,aa 4 47],.ret],
 [.tmp 4],48⟩
theorem qH:aP Tryz.prog 115 []=some k8:=by kernel_rfl
theorem OT (n:Nat) (v:n<=320) (m:Nat) (H:View) (hm:H m=.arr 1 [[gi (-1)]]):aw Tryz.prog 115 [.sl m 0 1 1,gi n] H λr H'=>aT H' r 1 (bH (List.replicate n (-1)))/\c8 H H' r:=by
 refine aw.of mixed qH ?_
 have hmul:=WH v
 unfold u64 at hmul
 have i:IntKind.u64.wrap 1=1:=by decide
 have j:IntKind.u64.wrap (n:Int)=n:=by
  unfold IntKind.wrap
  have w:(2:Int) ^ IntKind.u64.bits=18446744073709551616:=by rfl
  have x:IntKind.u64.signed=false:=by rfl
  simp only[w,x,ab2,aaP]
  simp
  omega
 have f:IntKind.i64.wrap (n:Int)=n:=wrap64 (by omega) (by omega)
 simp(disch:=omega)only[↓wr,seval,wq,k8]
 refine aj.dec (λh=>absurd h (by omega)) (λ_=>?_)
 simp(disch:=omega)only[↓wr,seval,wq]
 rw[i,j]
 refine ax.pure hmul ?_
 simp(disch:=omega)only[↓wr,seval,wq,f]
 refine aj.dec (λh=>absurd h (by omega)) (λ_=>?_)
 simp(disch:=omega)only[↓wr,seval,wq,f]
 refine⟨⟨by omega,by unfold aC;omega,by unfold aC;omega⟩,λp=>?_,λp b g=>?_⟩
 .refine Vy (k:=2) (sz:=1) (bytes:=8) (z:=[gi 0]) (xs:=[[gi (-1)]]) (rd:=[m]) (by kernel_rfl) (by simp(disch:=omega)only[↓wr,seval,wq]) (by simp(disch:=omega)only[↓wr,seval,wq];simp[bR,hm]) ?_
  simp(disch:=omega)only[↓wr,seval,wq]
  refine ba.intro (λk T H'=>H'=H/\T 7=.emp 2/\T 8=gG 0) 0 ⟨rfl,rfl,rfl⟩ ?_
  rintro k T _ ⟨rfl,t7,t8⟩
  simp(disch:=omega)only[↓wr,seval,wq,gT,t7,t8]
  refine⟨?_,λid a=>⟨rfl,by simp[owner]⟩⟩
  rw[p];exact .nil
 have l:¬ m=b:=by rintro rfl;rw[hm] at g;simp at g
 refine OC (id:=b) (off:=0) (len:=n) (sz:=1) (bytes:=8) (z:=[gi 0]) (s:=1) (es:=List.replicate n [gi 0]) (xs:=[[gi (-1)]]) (rd:=[m]) (by kernel_rfl) (by simp(disch:=omega)only[↓wr,seval,wq]) (by simp(disch:=omega)only[↓wr,seval,wq];simp[bR,View.set,l,hm]) (by simp[View.set]) (by simp) (by simp[aI]) (by obtain⟨q,rfl⟩:∃ q,n=q+1:=⟨n - 1,by omega⟩;rfl) ?_
 rw[show ([[gi (-1)]]:List (List V)).take n=List.replicate 1 [gi (-1)] by obtain⟨q,rfl⟩:∃ q,n=q+1:=⟨n - 1,by omega⟩;simp,
  show eN (List.replicate n [gi 0]) 0 (List.replicate 1 [gi (-1)])=List.replicate 1 [gi (-1)] ++ List.replicate (n - 1) [gi 0] by
   have:=wO (List.replicate 1 [gi (-1)]) [] (List.replicate n [gi 0]) (by simp;omega)
   simpa using this,acf]
 simp(disch:=omega)only[↓wr,seval,wq]
 rw[set_set]
 refine ba.intro (λk T H'=>∃ c:Nat,1<=c/\c+k=n/\H' b=.arr 1 (List.replicate c [gi (-1)] ++ List.replicate (n - c) [gi 0])/\(∀ id,H id≠.dead->H' id=H id)/\T 7=.sl b 0 n 1/\T 8=gi c) (n - 1) ⟨1,by omega,by omega,by simp[View.set],λid a=>?_,rfl,rfl⟩ ?_
 .have:¬ id=b:=by rintro rfl;exact a g
  simp[View.set,this]
 rintro k T H' ⟨c,c1,B,hH,e,t7,t8⟩
 simp(disch:=omega)only[↓wr,seval,wq,gT,t7,t8]
 apply aj.dec<;>intro y
 .simp(disch:=omega)only[↓wr,seval,wq,t7,t8,MA (id:=b) (off:=0) (k:=n) (m:=c) (by omega),CN (id:=b) (off:=0) (k:=n) (m:=c) (by omega)]
  have o:bR H' (.sl b 0 c 1)=some (List.replicate c [gi (-1)],[b]):=by
   obtain⟨q,rfl⟩:∃ q,c=q+1:=⟨c - 1,by omega⟩
   simp only[bR,hH]
   rw[aaF (by simp)]
   simp
  obtain⟨d,t⟩:∃ d,d=min (n - c) c:=⟨_,rfl⟩
  refine OC (id:=b) (off:=c) (len:=n - c) (sz:=1) (bytes:=8) (z:=[gi 0]) (s:=1) (es:=List.replicate c [gi (-1)] ++ List.replicate (n - c) [gi 0]) (xs:=List.replicate c [gi (-1)]) (rd:=[b]) (by kernel_rfl) (by simp(disch:=omega)only[↓wr,seval,wq]) (by simp(disch:=omega)only[↓wr,seval,wq];exact o) hH (by simp) (by simp[aI]) ?_ ?_
  .rw[List.take_replicate,<-t]
   obtain⟨q,A⟩:∃ q,d=q+1:=⟨d - 1,by omega⟩
   rw[A];rfl
  have u:=wO (List.replicate d [gi (-1)]) (List.replicate c [gi (-1)]) (List.replicate (n - c) [gi 0]) (by simp;omega)
  rw[acf] at u
  rw[List.take_replicate,<-t,u,acf]
  simp(disch:=omega)only[↓wr,seval,wq,t7,t8]
  refine⟨n - (c+d),by omega,c+d,by omega,by omega,?_,λid a=>?_,rfl⟩
  .simp[View.set,List.drop_replicate,<-List.replicate_append_replicate,show n - c - d=n - (c+d) by omega]
  .have:¬ id=b:=by rintro rfl;exact a g
   simp[View.set,this];exact e id a
 .simp(disch:=omega)only[↓wr,seval,wq,t7]
  obtain rfl:c=n:=by omega
  refine⟨.inr ⟨b,by simp,by rw[hH];simp[bH]⟩,λid a=>⟨e id a,?_⟩⟩
  simp only[owner,ne_eq,aaC]
  rintro rfl;exact a g
section
variable {g:af} {a:List aJ}
def oq (g:af) (l:List bQ):Prop:=∀ x∈l,∀ s∈x.ah ++ x.be,dL g s=true
theorem SJ (b:g.cY) {r:Int} (hr : -1<=r/\r < g.rules.length):∀ s∈aM g r,dL g s=true:=by
 unfold aM
 split
 .intro s a
  simp at a
  subst a
  have:=b.kj;have:=b.start
  unfold dL
  rw[aaD (by omega)]
  simp only[aaP];omega
 .intro s a
  have c:g.rules[r.toNat]?=some (aA g r):=by unfold aA;exact getD_some (by omega)
  exact b.sym _ (aaI c) s a
theorem Kp (a:g.cY) {x:ay} (b:cw g x):∀ s∈fW g x,dL g s=true:=λs c=>SJ a b.1 s (List.mem_of_mem_drop c)
theorem oq.met {l:List bQ} (h:oq g l) {x:bQ} (b:∀ s∈x.ah ++ x.be,dL g s=true):oq g (lz l x):=by
 unfold lz
 split
 .exact h
 .intro y a
  rcases aa1.1 a with a | a
  .exact h y a
  .simp at a;subst a;exact b
theorem oq.XU {x:bQ} (a:∀ s∈x.ah ++ (cP g x.it ++ x.be),dL g s=true) (s:Int):∀ (k:Nat) (l:List bQ),oq g l->oq g (qz g x s k l)
 | 0,_,h=>h
 | k+1,l,h=>by
  rw[qz]
  split
  .exact(oq.XU a s k l h).met a
  .exact oq.XU a s k l h
theorem oq.leave (f:bY g a) {l:List bQ} (j:kf g a l) (h:oq g l) {x:bQ} (i:x∈l):oq g (jO g a l x):=by
 unfold jO
 split
 .rename_i k
  have m:aW g x.it=((aW g x.it).1,true):=by rw[<-k]
  have e:=j.nd x i
  have hH:=f.has e.lt e.it
  obtain⟨f1,_⟩:=sx hH m
  have d:=Kp f.de hH
  rw[f1] at d
  have c:=h x i
  refine oq.XU (λs b=>?_) _ _ _ (h.met λs b=>?_)
  .simp only[aa1] at b c
   rcases b with b | b | b
   .exact c s (.inl b)
   .exact d s (aaV _ b)
   .exact c s (.inr b)
  .simp only[aa1,abL] at b c
   rcases b with (b | rfl) | b
   .exact c s (.inl b)
   .exact d _ (acx ..)
   .exact c s (.inr b)
 .exact h
theorem Ep (b:bY g a):∀ (f i:Nat) (l:List bQ),kf g a l->oq g l->oq g (kx g a f i l)
 | 0,_,_,_,h=>h
 | f+1,i,l,c,h=>by
  rw[kx]
  cases e:l[i]? with
  | none=>exact h
  | some x=>exact Ep b f (i+1) _ (DY b c e).1 (h.leave b c (aaI e))
theorem RV (b:bY g a):oq g (df g a):=Ep b _ _ _ (DV b) λx c s d=>by
 simp[nQ] at c
 subst c
 simp at d
theorem vI (a:g.cY) {s:Int} (h:dL g s=true):bM s:=by
 have:=a.ai;have:=a.al
 unfold dL at h
 unfold bM
 split at h <;> simp only[aaP] at h <;> omega
theorem G7 (c:bY g a) (d:a.length<=300) {i:Nat} (hi:i < a.length):cw g (eT (df g a) i).it/\(eT (df g a) i).ah.length<=86100/\(eT (df g a) i).be.length<=516600/\(fW g (eT (df g a) i).it).length<=6 /\
  (∀ s∈(eT (df g a) i).ah,bM s)/\(∀ s∈(eT (df g a) i).ah ++ (fW g (eT (df g a) i).it ++ (eT (df g a) i).be),bM s):=by
 obtain⟨f1,f2,f3⟩:=DM c d hi
 obtain⟨n1,_,_⟩:=Du c d
 have hH:=c.has f3.lt f3.it
 obtain⟨j,h⟩:=List.getElem?_of_mem f1
 have l:=n1.len j _ h
 have b:=n1.short c d
 have k:=(aaR.1 h).1
 have e:=RV c _ f1
 have f:=Kp c.de hH
 refine⟨hH,by omega,by omega,?_,λs b=>vI c.de (e s (aa1.2 (.inl b))),λs b=>?_⟩
 .have:=dS c.de hH.1
  unfold fW
  simp;omega
 .rcases aa1.1 b with b | b
  .exact vI c.de (e s (aa1.2 (.inl b)))
  .rcases aa1.1 b with b | b
   .exact vI c.de (f s b)
   .exact vI c.de (e s (aa1.2 (.inr b)))
end
def wh:SC :=
 ae [ae [ab [aa 21 6,aa 22 5,fh 23 22,ao 24 6 23,ak 25 24,aN 26 25,aQ 27 .lss 21 26],bX 27 (.exit 0)],.block 1 (ab [aa 30 5,aa 31 5,fh 32 31,ao 33 6 32,ak 34 33,aa 35 6,aO 36 5 34 35,aZ 37 5 36,bk 38 126 [30,37]]),ab [aa 28 6,aF 29 .add 28 1,aa 6 29]]
def z8:SF:=⟨ae [ab [cF 2 0,((some 4),.op (.eJ (.val (.val (.pointer none)))))],.region true [⟨none,[aZ 7 4 2,aa 8 1,((some 9),.op (.rY)),((some 10),.op (.bJ 1 1 [(.val (.int .i64 0))] [(0,(.val (.val (.int .i64 (-1)))))])),aa 11 1,aN 12 11,bk 13 115 [10,12],((some 14),.op (.build [(.emp 1),(.emp 1),(.emp 1),(.val (.int .i64 0)),(.emp 1),(.val (.map none)),(.emp 1),(.emp 1)] [(0,4,(.tmp 7)),(4,1,(.tmp 8)),(5,1,(.tmp 9)),(7,1,(.tmp 13))])),((some 15),.op (.box (.tmp 14))),aa 5 15]⟩],ab [aa 16 5,((some 17),.op (.build [(.val (.int .i64 0)),(.val (.int .i64 0))] [(0,1,(.val (.val (.int .i64 (-1)))))])),((some 18),.op (.build [(.val (.int .i64 0)),(.val (.int .i64 0)),(.val (.int .i64 0))] [(0,1,(.val (.val (.int .i64 0)))),(1,2,(.tmp 17))])),((some 19),.op (.build [(.val (.int .i64 0)),(.val (.int .i64 0)),(.val (.int .i64 0)),(.emp 1),(.emp 1)] [(0,3,(.tmp 18))])),bk 20 125 [16,19]],ae [ab [aR 6 0],bZ 0 wh],ab [aa 39 5,aa 4 39],.ret],
 [.tmp 4],40⟩
theorem De:aP Tryz.prog 61 [2]=some z8:=by kernel_rfl
theorem MB (a:List aJ):fu a []=List.replicate a.length (-1):=by
 unfold fu
 apply List.ext_getElem?
 intro i
 rw[aaE,abV]
 by_cases h:i < a.length
 .rw[aby h,aaF h];rfl
 .rw[aa6 (by simpa using h),aaD h];rfl
theorem Mj {g:af} {a:List aJ} {f i:Nat} {l:List bQ} (h:l.length<=i):kx g a f i l=l:=by
 cases f with
 | zero=>rfl
 | succ f=>rw[kx,aa6 h]
theorem Nr (g:af) (W:g.Ok) (a:List aJ) (v:bY g a) (E:a.length<=300) (H:View) :
  aw Tryz.prog 61 [.agg (ag g),bI a] H λr H'=>∃ b,r=.ptr b 0 0/\fJ H' b g a (df g a) 100000000 []:=by
 have x:=v.pos
 have F:cT (bI a)=some a.length:=by simp[bI,cT]
 have d:aI (bI a)=true/\V.cells (bI a)=[bI a]:=⟨rfl,rfl⟩
 refine aw.of mixed De ?_
 simp(disch:=omega)only[↓wr,seval,wq,z8,ag,encS,F,d.1,d.2]
 intro n1 X N z
 obtain⟨G,z⟩:=cq z (by simp)
 refine ax.GJ (OT a.length (by omega) N _ (by simp[View.set])) ?_
 intro r O hr o
 have p:O n1=.map [] 0:=by
  have e:¬ n1=N:=λe=>G e.symm
  rw[(o n1 (by simp[View.set,e])).1]
  simp[View.set,e]
 simp(disch:=omega)only[↓wr,seval,wq,hr.cells,hr.fL,d.1,d.2]
 intro j f
 have I:¬ n1=j:=by rintro rfl;rw[p] at f;simp at f
 have P:=(((bq.nil.Gr hr o).new f 8 [tg g a n1 (.emp 1) r]).emp (k:=1) (sz:=5)).perm (.cons _ (.swap _ _ _))
 have Q:fJ (O.set j (.arr 8 [tg g a n1 (.emp 1) r])) j g a [] 0 []:=by
  refine⟨n1,.emp 1,r,[],[],0,?_,by simp[View.set,I,p,dx],⟨by simp,by simp⟩,λk=>⟨0,rfl,aaM _,by simp⟩,rfl,by simp⟩
  rw[MB]
  exact P
 try simp(disch:=omega)only[↓wr,seval,wq]
 have hm:=Gn g a j [] 0 (by omega) (by simp) ⟨⟨0,⟨-1,0⟩,[],[]⟩,.emp 1,.emp 1⟩ ⟨.inr ⟨rfl,rfl⟩,.inr ⟨rfl,rfl⟩⟩ x [] _ Q
 refine ax.eM (hm.mono ?_)
 rintro _ H4 R
 simp(disch:=omega)only[↓wr,seval,wq]
 refine ba.up 86101 (λi T H'=>∃ (l:List bQ),i<=l.length/\kf g a l/\kx g a (90000 - i) i l=df g a/\fJ H' j g a l (1+41 * i) []/\T 5=.ptr j 0 0/\T 6=gi i) ⟨nQ,by simp,DV v,rfl,R,rfl,rfl⟩ ?_
 clear R Q P hm p f hr o
 rintro i k T Y hk ⟨l,Z,h,s,J,t5,t6⟩
 obtain⟨q,us,uf,S,m,c,w⟩:=id J
 have U:=w.own.is 2 rfl (by simp)
 have K:S.length=l.length:=by rw[<-w.is,aaJ]
 have L:cT us=some l.length:=by rw[(w.own.own 0 rfl).len,aaJ,K]
 simp(disch:=omega)only[↓wr,seval,wq,wh,t5,t6,U,L]
 apply aj.dec<;>intro hc
 .have M:S[i]?=some (S[i]'(by omega)):=aaB (by omega)
  have A:=aaL (show i < S.length by omega)
  generalize S[i]'(by omega)=y at M A
  have u:l[i]?=some y.n:=by rw[<-w.is,aaE,M];rfl
  obtain⟨n,B,hH⟩:=(w.own.own 0 rfl).sl (by simp;omega)
  rw[aaJ] at B
  have C:(S.map jE).getD i []=jE y:=by simp[aaA,M]
  have hs:=h.short v E
  have D:=Vp g W a v E j l h y (w.ok y A) i u (1+41 * i) (by omega) [] Y J
  simp only[jE] at D C
  simp(disch:=omega)only[↓wr,seval,wq,t5,t6,U,B,hH,C]
  refine⟨by omega,by first | omega | (simp;omega),?_⟩
  refine ax.eM (D.mono ?_)
  rintro _ H6 w6
  simp(disch:=omega)only[↓wr,seval,wq,t5,t6]
  obtain⟨l1,⟨t,ht⟩,_⟩:=DY v h u
  refine aG hk (by omega) ⟨jO g a l y.n,by rw[ht,aa4];omega,l1,?_,w6.up (B':=1+41 * (i+1)) (by omega),t5,rfl⟩
  rw[<-s,show 90000 - i=90000 - (i+1)+1 by omega,kx,u]
 .simp(disch:=omega)only[↓wr,seval,wq,t5]
  rw[Mj (by omega)] at s
  subst s
  have hs:=h.short v E
  exact⟨j,rfl,J.up (B':=100000000) (by omega)⟩
def JV (x:(List Int × List Int) × Int):V:=.bf [encI x.1.1,encI x.1.2,gi x.2]
def qF (b:zK):List V:=[gi b.state,gi b.len,encI b.word]
def D7 (x:List zK × Int):V:=.bf [.aU (x.1.map qF),gi x.2]
noncomputable def GF (g:af) (s:Int):(List Int × List Int) × Int :=
 if (aS g).2≠0 then (([],[]),(aS g).2) else if s < 0∨((aS g).1.length:Int)<=s then (([],[]),11) else (dF g (aS g).1 s.toNat,0)
def dK (g:af) (a:List aJ):Nat->List zK × Int
 | 0=>([],0)
 | i+1=>if (dK g a i).2≠0 then dK g a i else if (dy g ((dF g a i).1 ++ (dF g a i).2)).2≠0 then ([],(dy g ((dF g a i).1 ++ (dF g a i).2)).2) else ((dK g a i).1 ++ [vL g a i],0)
noncomputable def mq (g:af):List zK × Int:=if (aS g).2≠0 then ([],(aS g).2) else dK g (aS g).1 (aS g).1.length
theorem WR {h:aE} {u v:V} {x y:List Int} (hu:A0 u x) (a:Fr h v (encI y)):Fr h (.bf [u,v,gi 0]) (JV ((x,y),0)):=.bf _ _ rfl λi hi=>by
 match i,hi with
 | 0,_=>exact hu.pK h rfl
 | 1,_=>exact a
 | 2,_=>exact .tree _ (.val _)
theorem DN {h:aE} {e:Int} : Fr h (.bf [.emp 1,.emp 1,gi e]) (JV (([],[]),e)):=.bf _ _ rfl λi hi=>by
 match i,hi with
 | 0,_=>exact .emp 1
 | 1,_=>exact .emp 1
 | 2,_=>exact .tree _ (.val _)
theorem K5 (b:zK):∀ v∈qF b,Tree v:=by
 intro v a
 simp[qF] at a
 rcases a with rfl | rfl | rfl
 .exact .val _
 .exact .val _
 .exact cx _
theorem CF {g:af} {a:List aJ} {i:Nat} (h:(dK g a i).2≠0):∀ d,dK g a (i+d)=dK g a i
 | 0=>rfl
 | d+1=>by
  have b:=CF h d
  rw[<-aca,dK,b,aaF h]
theorem Qe {g:af} {a:List aJ} {i n:Nat} (h:(dK g a i).2≠0) (hi:i<=n):dK g a n=dK g a i:=by
 have:=CF h (n - i)
 rwa [show i+(n - i)=n by omega] at this
theorem EM {g:af} {a:List aJ} : ∀ i,(dK g a i).1.length<=i
 | 0=>by simp[dK]
 | i+1=>by
  have b:=EM (g:=g) (a:=a) i
  rw[dK]
  split
  .omega
  .split
   .simp
   .simp;omega
def qO:SF:=⟨ae [ab [bT 4 1,bT 5 1],ab [aa 7 0,fh 8 7,ao 9 6 8,ak 10 9,aa 11 0,fh 12 11,ao 13 7 12,ak 14 13,aa 15 1,aO 16 1 14 15,ak 17 16,aO 18 5 10 17,aZ 19 5 18,((some 6),.op (.alloc [(.val (.int .i64 0)),(.val (.int .i64 0)),(.val (.int .i64 0)),(.emp 1),(.emp 1)])),cD 5 6 19],.region true [⟨none,[ao 20 3 6,ak 21 20,aa 22 0,ao 23 0 6,ao 24 1 23,aZ 25 2 24,bk 26 127 [22,25],ao 27 4 6,ak 28 27,((some 29),.op (.bJ 2 1 [(.emp 1)] [(0,(.tmp 26)),(1,(.tmp 28))])),bk 30 68 [29],aa 4 21,aa 5 30]⟩],.ret],
 [.tmp 4,.tmp 5],31⟩
theorem wU:aP Tryz.prog 62 []=some qO:=by kernel_rfl
def Bn:SF:=⟨ae [ab [cF 2 0,bT 4 1,bT 5 1,aR 6 0],ab [aZ 12 4 2,bk 13 60 [12],aa 11 13,dr 14 0 11,dr 15 1 11,aa 7 14,aa 8 15],.block 0 (ae [ab [aa 17 8,aF 18 .neq 17 0,aa 16 18],.cond (.tmp 16) (ae [ab [aa 19 8,bT 4 1,bT 5 1,aa 6 19],.ret]) (ae [.region false [⟨none,[aa 21 1,aF 22 .lss 21 0,aa 23 22]⟩,⟨(some (23,false)),[aa 24 1,aa 25 7,aN 26 25,aQ 27 .geq 24 26]⟩,⟨none,[cy 28 23 27,aa 20 28]⟩],bb 20 (ae [ab [bT 4 1,bT 5 1,aR 6 11],.ret])])]),ab [aZ 30 4 2,aa 31 7,bk 32 61 [30,31],aa 33 1,bk 34 62 [32,33],aa 29 34,dr 35 0 29,dr 36 1 29,aa 9 35,aa 10 36],ab [aa 37 9,aa 38 10,aa 4 37,aa 5 38,aR 6 0],.ret],
 [.tmp 4,.tmp 5,.tmp 6],39⟩
theorem Fm:aP Tryz.prog 24 [2]=some Bn:=by kernel_rfl
def uS:SC :=
 ae [ab [aQ 28 .lss 27 26],bX 28 (.exit 0),.block 1 (ae [ab [aa 29 27,aa 8 29],ab [aa 31 6,aa 32 8,bk 33 62 [31,32],aa 30 33,dr 34 0 30,dr 35 1 30,aa 9 34,aa 10 35],.region true [⟨none,[aZ 37 4 1,aa 38 9,aa 39 10,((some 40),.op (.bJ 2 1 [(.emp 1)] [(0,(.tmp 38)),(1,(.tmp 39))])),bk 41 68 [40],bk 42 67 [37,41],aa 36 42,dr 43 0 36,dr 44 1 36,aa 11 43,aa 12 44]⟩],ae [ab [aa 45 12,aF 46 .neq 45 0],bb 46 (ae [ab [aa 47 12,bT 2 1,aa 3 47],.ret])],ab [aZ 49 4 1,aa 50 9,bk 51 67 [49,50],aa 48 51,dr 52 0 48,dr 53 1 48,aa 13 52,aa 12 53],ae [ab [aa 54 12,aF 55 .neq 54 0],bb 55 (ae [ab [aa 56 12,bT 2 1,aa 3 56],.ret])],ab [aa 57 7,aa 58 8,aa 59 13,aN 60 59,aa 61 11,((some 62),.op (.build [(.val (.int .i64 0)),(.val (.int .i64 0)),(.emp 1)] [(0,1,(.tmp 58)),(1,1,(.tmp 60)),(2,1,(.tmp 61))])),((some 63),.op (.bJ 1 3 [(.val (.int .i64 0)),(.val (.int .i64 0)),(.emp 1)] [(0,(.tmp 62))])),fD 64 3 40 57 63,aa 7 64]]),ab [aF 65 .add 27 1,aa 27 65]]
def xN:SF:=⟨ae [ab [cF 1 0,bT 2 1,aR 3 0],ab [aZ 15 4 1,bk 16 60 [15],aa 14 16,dr 17 0 14,dr 18 1 14,aa 4 17,aa 5 18],ae [ab [aa 19 5,aF 20 .neq 19 0],bb 20 (ae [ab [aa 21 5,bT 2 1,aa 3 21],.ret])],ab [aZ 22 4 1,aa 23 4,bk 24 61 [22,23],aa 6 24],ab [bT 7 1],ae [ab [aa 25 4,aN 26 25,aR 27 0],bZ 0 uS],ab [aa 66 7,aa 2 66,aR 3 0],.ret],
 [.tmp 2,.tmp 3],67⟩
theorem CD:aP Tryz.prog 28 [1]=some xN:=by kernel_rfl
theorem TR (g:af) (hg:g.Ok) (a:List aJ) (M:bY g a) (h3:a.length<=300) (b:Nat) (B:Nat) (K:List dH) (i:Nat) (hi:i < a.length) (H:View) (hW:fJ H b g a (df g a) B K) :
  aw Tryz.prog 62 [.ptr b 0 0,gi i] H λr H'=>(∃ v,A0 v (dF g a i).1/\r=.bf [v,encI (dF g a i).2])/\∀ id,H id≠.dead->H' id=H id:=by
 have hf:=M.de
 have an:=mN hf
 obtain⟨f1,f2,f3⟩:=DM M h3 hi
 obtain⟨p1,p2,p3,p4,_,_⟩:=G7 M h3 hi
 obtain⟨k,k1,k2,k3⟩:=C1 i (df g a) 0 ⟨_,f1,f2⟩
 rw[abq] at k1
 have N:dF g a i=((eT (df g a) i).ah,fW g (eT (df g a) i).it ++ (eT (df g a) i).be):=rfl
 rw[N]
 obtain⟨q,us,uf,S,m,c,w⟩:=hW
 have aq:S.length=(df g a).length:=by rw[<-w.is,aaJ]
 have O:=w.own.is 2 rfl (by simp)
 have P:S[k]?=some (S[k]'(by omega)):=aaB (by omega)
 have z:=aaL (show k < S.length by omega)
 generalize S[k]'(by omega)=y at P z
 have Q:y.n=eT (df g a) i:=by
  have:(S.map vo.n)[k]?=some y.n:=by rw[aaE,P];rfl
  rw[w.is,k3] at this
  simpa using this.symm
 have j:=w.ok y z
 rw[<-Q] at p1 p2 p3 p4 ⊢
 obtain⟨n,A,hH⟩:=(w.own.own 0 rfl).sl (by simp;omega)
 rw[aaJ] at A
 have C:(S.map jE).getD k []=jE y:=by simp[aaA,P]
 have l:(fu a (df g a)).length=a.length:=by simp[fu]
 obtain⟨nf,D,hF⟩:=(w.own.own 1 rfl).sl (by simp[l];omega)
 rw[aaJ,l] at D
 have R:(bH (fu a (df g a))).getD i []=[gi k]:=by
  rw[bH,aaA,aaE,fu,aaE,aby hi]
  simp[k1]
 obtain⟨⟨T,U,ar⟩,⟨E,F,a1⟩⟩:=And.intro j.a.fL j.b.fL
 have W:=tN (fW g y.n.it) y.n.be (by omega)
 simp only[jE] at C
 refine aw.of mixed wU ?_
 simp(disch:=omega)only[↓wr,seval,wq,qO,O,A,D,hF,R,hH,C,T,U,E,F]
 refine⟨hi,by rw[l];exact hi,by omega,by omega,λn1 p=>?_⟩
 rw[set_set]
 have X:¬ b=n1:=by rintro rfl;rw[O] at p;simp at p
 have G:(H.set n1 (.arr 5 [[gi y.n.st,gi y.n.it.au,gi y.n.it.dot,y.a,y.b]])) b=.arr 8 [tg g a q us uf]:=by simp only[View.set,aaD X,O]
 have s:(H.set n1 (.arr 5 [[gi y.n.st,gi y.n.it.au,gi y.n.it.dot,y.a,y.b]])) n1=.arr 5 [[gi y.n.st,gi y.n.it.au,gi y.n.it.dot,y.a,y.b]]:=by simp only[View.set,if_true]
 have f:∀ id,H id≠.dead->(H.set n1 (.arr 5 [[gi y.n.st,gi y.n.it.au,gi y.n.it.dot,y.a,y.b]])) id=H id:=λid e=>by
  have:¬ id=n1:=by rintro rfl;exact e p
  simp only[View.set,aaD this]
 generalize View.set H n1 (.arr 5 [[gi y.n.st,gi y.n.it.au,gi y.n.it.dot,y.a,y.b]])=H1 at G s f ⊢
 have hr:=MZ g (by unfold bM;omega) a q us uf b H1 G y.n.it p1
 simp only[bu] at hr
 refine ax.still hr (λr H' h id e=>(h.2 id e).1) ?_
 rintro u L ⟨hu,I⟩
 have J:aI u=true/\V.cells u=[u]:=by
  rcases hu with rfl | ⟨n,x,d,rfl,_⟩ <;> exact⟨rfl,rfl⟩
 have Y:L n1=.arr 5 [[gi y.n.st,gi y.n.it.au,gi y.n.it.dot,y.a,y.b]]:=by rw[(I n1 (by rw[s];simp)).1];exact s
 simp(disch:=omega)only[↓wr,seval,wq,Y,J.1,J.2,E,F]
 intro n9 t
 have Z:∀ {o:dG} (id:Nat),L id≠.dead->(L.set n9 o) id=L id:=λ{o} id e=>by
  have:¬ id=n9:=by rintro rfl;exact e t
  simp only[View.set,aaD this]
 refine ax.ub W (by kernel_rfl) ⟨cR.two (by simp only[View.set,if_true]) ((hu.keep λid e=>Z id e).pK) j.b.pK,trivial⟩ ?_
 simp(disch:=omega)only[↓wr,seval,wq]
 refine⟨⟨y.a,j.a,rfl⟩,λid e=>?_⟩
 have h1:=f id e
 have h2:=(I id (by rw[h1];exact e)).1
 have e9:¬ id=n9:=by rintro rfl;rw[h2,h1] at t;exact e t
 rw[aaD e9,h2,h1]
theorem fJ.app {H:View} {b:Nat} {g:af} {a:List aJ} {l:List bQ} {B:Nat} {u:V} {sz:Nat} {es:List (List V)} (h:fJ H b g a l B [(u,sz,es)]):aT H u sz es/\∀ d H' es',aT H' d sz es'->Left H H' u d->fJ H' b g a l B [(d,sz,es')]:=by
 obtain⟨q,us,f,S,m,c,w⟩:=h
 refine⟨w.own.own 3 rfl,λd H' es' i e=>⟨q,us,f,S,m,c,?_,e.map (w.own.own 3 rfl) w.map,w.born,w.seen,w.is,w.ok⟩⟩
 exact((w.own.perm EC).left i e).perm EC.symm
theorem V0 (g:af) (i:Int):∀ v∈[V.agg (ag g),gi i],Tree v:=by
 intro v a;simp at a
 rcases a with rfl | rfl
 .exact bL _ (cd g)
 .exact .val _
theorem M0 (g:af) (f:g.Ok) (j:g.Small) (s:Int):az Tryz.prog 24 [.agg (ag g),gi s] (JV (GF g s)):=by
 refine az.of (V0 g s) ?_
 have l:=(IC g f j).pure
 have d:cT (bI (aS g).1)=some (aS g).1.length:=by simp[bI,cT]
 refine aw.of mixed Fm ?_
 simp only[ag,encS] at l
 simp(disch:=omega)only[↓wr,seval,wq,Bn,ag,encS]
 refine ax.pure l ?_
 simp(disch:=omega)only[↓wr,seval,wq]
 unfold GF
 apply aj.ne<;>intro h
 .rw[aaF h]
  simp(disch:=omega)only[↓wr,seval,wq]
  intro k _
  exact DN
 rw[aaD (by omega)]
 obtain⟨_,m,c⟩:=uv h
 generalize (aS g).1=a at *
 simp(disch:=omega)only[↓wr,seval,wq,d]
 apply aj.dec<;>intro h1
 .rw[aaF (by omega)]
  simp(disch:=omega)only[↓wr,seval,wq]
  intro k _
  exact DN
 simp(disch:=omega)only[↓wr,seval,wq,d]
 apply aj.dec<;>intro n
 .rw[aaF (by omega)]
  simp(disch:=omega)only[↓wr,seval,wq]
  intro k _
  exact DN
 rw[aaD (by omega)]
 obtain⟨i,rfl⟩:∃ i:Nat,s=i:=⟨s.toNat,by omega⟩
 have e:=Nr g f a m c (λ_=>.dead)
 simp only[ag,encS] at e
 simp(disch:=omega)only[↓wr,seval,wq,ag,encS]
 refine ax.eM (e.mono ?_)
 rintro _ H1 ⟨b,rfl,w⟩
 simp(disch:=omega)only[↓wr,seval,wq]
 refine ax.eM ((TR g f a m c b _ _ i (by omega) H1 w).mono ?_)
 rintro _ p ⟨⟨v,o,rfl⟩,_⟩
 simp(disch:=omega)only[↓wr,seval,wq]
 intro k _
 exact WR o (.tree _ (cx _))
theorem A3 (g:af) (m:g.Ok) (d:g.Small):az Tryz.prog 28 [.agg (ag g)] (D7 (mq g)):=by
 refine az.of (eK g) ?_
 have O:=(IC g m d).pure
 have z:cT (bI (aS g).1)=some (aS g).1.length:=by simp[bI,cT]
 refine aw.of mixed CD ?_
 simp only[ag,encS] at O
 simp(disch:=omega)only[↓wr,seval,wq,xN,ag,encS]
 refine ax.pure O ?_
 simp(disch:=omega)only[↓wr,seval,wq]
 unfold mq
 apply aj.ne<;>intro h
 .rw[aaF h]
  simp(disch:=omega)only[↓wr,seval,wq]
  intro A _
  exact(lu (.emp 1)).YI
 rw[aaD (by omega)]
 obtain⟨_,B,c⟩:=uv h
 generalize (aS g).1=a at *
 have p:=Nr g m a B c (λ_=>.dead)
 simp only[ag,encS] at p
 simp(disch:=omega)only[↓wr,seval,wq,ag,encS]
 refine ax.eM (p.mono ?_)
 rintro _ H1 ⟨b,rfl,w⟩
 simp(disch:=omega)only[↓wr,seval,wq,z]
 refine ba.up a.length (λi T H'=>∃ (u:V),(dK g a i).2=0/\fJ H' b g a (df g a) 100000000 [(u,3,(dK g a i).1.map qF)]/\T 1=.aL (ag g) 0/\T 6=.ptr b 0 0/\T 7=u/\T 26=gi a.length/\T 27=gi i) ⟨.emp 1,rfl,w.add .nil .emp,rfl,rfl,rfl,rfl,rfl⟩ ?_
 clear w
 rintro i k T H hk ⟨u,he,w,t1,t6,t7,t26,t27⟩
 simp(disch:=omega)only[↓wr,seval,wq,uS,t1,t6,t7,t26,t27]
 apply aj.dec<;>intro R
 .have hi:i < a.length:=by omega
  obtain⟨p1,S,p3,p4,U,W⟩:=G7 B c hi
  have C:dF g a i=((eT (df g a) i).ah,fW g (eT (df g a) i).it ++ (eT (df g a) i).be):=rfl
  have P:(dF g a i).1.length<=86100/\(dF g a i).2.length<=600000/\(∀ s∈(dF g a i).1,bM s)/\(∀ s∈(dF g a i).1 ++ (dF g a i).2,bM s):=by
   rw[C]
   exact⟨S,by simp only[aa4];omega,U,W⟩
  obtain⟨P,q2,X,Y⟩:=P
  have hw:=TR g m a B c b _ _ i hi H w
  have l:dK g a (i+1)=if (dy g ((dF g a i).1 ++ (dF g a i).2)).2≠0 then ([],(dy g ((dF g a i).1 ++ (dF g a i).2)).2) else ((dK g a i).1 ++ [vL g a i],0):=by
   rw[dK,aaD (by rw[he];simp)]
  have D:vL g a i=⟨i,((dy g (dF g a i).1).1.length:Int),(dy g ((dF g a i).1 ++ (dF g a i).2)).1⟩:=rfl
  have E:=λh=>(Ke (g:=g) (u:=(dF g a i).1) (v:=(dF g a i).2) h).1
  generalize (dF g a i).1=x at *
  generalize (dF g a i).2=y at *
  have F:=tN x y (by omega)
  have q:=(JP g m d (x ++ y) (by simp;omega) Y).pure
  have r:=JP g m d x (by omega) X
  simp only[ag,encS,PJ] at q r
  have Z:=EM (g:=g) (a:=a) i
  generalize dy g (x ++ y)=G at *
  generalize dy g x=Q at *
  simp(disch:=omega)only[↓wr,seval,wq,t1,t6,t7,t26,t27]
  refine ax.eM (hw.mono ?_)
  rintro _ H2 ⟨⟨v,f,rfl⟩,I⟩
  have w2:=w.stay I
  obtain⟨J,K,_⟩:=f.fL
  simp(disch:=omega)only[↓wr,seval,wq,t1,t6,t7,t26,t27,ag,encS,J,K]
  intro n9 L
  have w3:=w2.fresh (o:=.arr 1 [[v],[encI y]]) L
  try simp(disch:=omega)only[↓wr,seval,wq,t1,t6,t7,t26,t27]
  refine ax.ub F (by kernel_rfl) ⟨cR.two (by simp only[View.set,if_true];rfl) f.pK (.tree (cx y)),trivial⟩ ?_
  simp(disch:=omega)only[↓wr,seval,wq,t1,t6,t7,t26,t27,ag,encS]
  refine ax.pure q ?_
  simp(disch:=omega)only[↓wr,seval,wq,t1,t6,t7,t26,t27,ag,encS]
  apply aj.ne<;>intro h1
  .rw[aaF h1] at l
   simp(disch:=omega)only[↓wr,seval,wq]
   intro A _
   rw[Qe (i:=i+1) (by rw[l];exact h1) (by omega),l]
   exact(lu (.emp 1)).YI
  rw[aaD (by omega)] at l
  have h2:Q.2=0:=E (by omega)
  simp(disch:=omega)only[↓wr,seval,wq,t1,t6,t7,t26,t27,ag,encS]
  refine ax.ub r (by kernel_rfl) ⟨.tree (bL _ (cd g)),f.pK,trivial⟩ ?_
  simp(disch:=omega)only[↓wr,seval,wq,t1,t6,t7,t26,t27]
  refine aj.ne (λh=>absurd h2 h) (λ_=>?_)
  simp(disch:=omega)only[↓wr,seval,wq,t1,t6,t7,t26,t27,encI]
  intro n10 t
  have w4:=w3.fresh (n:=n10) (o:=.arr 3 [[gi i,gi Q.1.length,encI G.1]]) t
  obtain⟨M,wk⟩:=w4.app
  simp(disch:=omega)only[↓wr,seval,wq,bz]
  refine gF (es:=(dK g a i).1.map qF) M (by simp[aI]) (by unfold aC;simp;omega) (by unfold aC;simp;omega) ?_
  intro u5 H5 o5 l5
  have w5:=wk _ _ _ o5 l5
  simp(disch:=omega)only[↓wr,seval,wq,t1,t6,t26,t27]
  refine aG hk hi ⟨u5,by rw[l],?_,t1,t6,rfl,t26,rfl⟩
  rw[l,D,aaW]
  exact w5
 .obtain rfl:i=a.length:=by omega
  simp(disch:=omega)only[↓wr,seval,wq,t7]
  intro A f
  obtain⟨M,_⟩:=w.app
  have N:=cR.own M (λe he v f=>by
   obtain⟨x,_,rfl⟩:=aaX.1 he
   exact K5 x v f) A f
  unfold D7
  rw[he]
  exact .bf _ _ rfl λj hj=>by
   match j,hj with
   | 0,_=>exact N
   | 1,_=>exact .tree _ (.val _)
def Uo (g:af) (s:Int) (n:Nat) (o:List ay):List ay:=(List.range n).foldl (λo (k:Nat)=>if (aA g k).left = -1 - s then eW o ⟨k,0⟩ else o) o
def KC (g:af) (p:List ay) (x:ay):List ay:=if (aW g x).2=true/\(aW g x).1 < 0 then Uo g (aW g x).1 g.rules.length p else p
def FJ (g:af) (l:List ay):List ay:=iter (λo=>o.foldl (KC g) o) g.rules.length l
def YO (g:af) (l o:List ay):Bool:=l.all (λx=>decide (x∈o)) && o.all λx=>!(aW g x).2 || decide (0<=(aW g x).1) || (List.range g.rules.length).all λ(k:Nat)=>!decide ((aA g k).left = -1 - (aW g x).1) || decide ((⟨k,0⟩:ay)∈o)
def Lr (g:af) (l o:List ay):Prop:=cz o/\∀ x∈o,lx g l x
theorem N2 {g:af} {k:Nat} (h:k < g.rules.length):g.rules[k]?=some (aA g k):=by unfold aA;rw[aa0];exact getD_some h
theorem NZ {g:af} {l:List ay} {x:ay} {s:Int} (c:lx g l x) (d:aW g x=(s,true)) (e:s < 0):∀ (n:Nat) (o:List ay),n<=g.rules.length->Lr g l o->Lr g l (Uo g s n o)
 | 0,_,_,h=>h
 | n+1,o,f,h=>by
  have a:=NZ c d e n o (by omega) h
  unfold Uo at a ⊢
  rw[abH,abR]
  simp only[abc,acd]
  split
  .rename_i i
   refine⟨pN a.1,λy b=>?_⟩
   rcases jG.1 b with rfl | b
   .exact .step c d e (N2 (by omega)) i
   .exact a.2 y b
  .exact a
theorem C2 {g:af} {l:List ay} : ∀ (q o:List ay),(∀ x∈q,lx g l x)->Lr g l o->Lr g l (q.foldl (KC g) o)
 | [],_,_,h=>h
 | x :: q,o,a,h=>by
  rw[abc]
  refine C2 q _ (λy c=>a y (by simp[c])) ?_
  unfold KC
  split
  .rename_i b
   exact NZ (a x (by simp)) (Prod.ext rfl b.1) b.2 _ _ (aaM _) h
  .exact h
theorem FE {α:Type} {p:α->Prop} {f:α->α} (h:∀ x,p x->p (f x)):∀ (n:Nat) (x:α),p x->p (iter f n x)
 | 0,_,a=>a
 | n+1,x,a=>FE h n (f x) (h x a)
theorem Vx {g:af} (i:g.cY) {l:List ay} (j:cz l) (m:∀ x∈l,cw g x) (h:YO g l (FJ g l)=true):cJ g l=FJ g l:=by
 have d:Lr g l (FJ g l):=FE (λo e=>C2 o o e.2 e) _ l ⟨j,λx b=>.base b⟩
 simp only[YO,aaK,aaZ,aaP] at h
 refine Df i m d.1 d.2 h.1 λx b s k R n f hk p=>?_
 have h1:=h.2 x b
 obtain⟨a,q⟩:=aaR.1 hk
 rw[N2 a] at hk
 simp only[aaC] at hk
 simp only[n,acF,acJ,abC,aaP,aaZ,abA,acD,abT] at h1
 rcases h1 with h1 | h1
 .omega
 .rcases h1 k a with c | c
  .exact absurd (by rw[hk];exact p) c
  .exact c
def Jb (g:af) (at_:Nat) (out:List aJ):List aJ:=(List.range (g.ai.length+g.al.length)).foldl (dw g (FJ g (out.getD at_ bC).bc) at_) out
def Jd (g:af):Nat->Nat->List aJ->Option (List aJ)
 | 0,_,_=>none
 | f+1,at_,out=>if at_ < out.length then
   (if YO g (out.getD at_ bC).bc (FJ g (out.getD at_ bC).bc)=true/\(Jb g at_ out).length<=300 then Jd g f (at_+1) (Jb g at_ out) else none)
  else some out
theorem La {g:af} (b:g.cY):∀ (f at_:Nat) (out a:List aJ),en g at_ 0 out->Jd g f at_ out=some a->∀ k:Nat,f<=k->fN g k at_ out=(a,0)
 | 0,_,_,_,_,h,_,_=>by simp[Jd] at h
 | f+1,at_,out,a,l,h,k,hk=>by
  obtain⟨j,rfl⟩:∃ j,k=j+1:=⟨k - 1,by omega⟩
  rw[Jd] at h
  rw[fN]
  split at h
  .rename_i c
   rw[aaF c]
   split at h
   .rename_i m
    have hm:=aaI (getD_some (d:=bC) c)
    have i:=l.bc _ hm
    have e:xg g at_ out (g.ai.length+g.al.length)=Jb g at_ out:=by
     unfold xg Jb
     rw[Vx b i.1 i.2.2 m.1]
    have hr:=en.row (l.nB b c).1 (l.nB b c).2 l (g.ai.length+g.al.length) (by have:=b.ai;have:=b.al;omega)
    rw[show (List.range (g.ai.length+g.al.length)).foldl (dw g (cJ g (out.getD at_ bC).bc) at_) out=xg g at_ out (g.ai.length+g.al.length) from rfl] at hr
    rw[e] at hr ⊢
    rw[aaD (by omega)]
    exact La b f (at_+1) _ a hr.1.next h j (by omega)
   .simp at h
  .rename_i c
   rw[aaD c]
   simp only[aaC] at h
   rw[h]
theorem VF {g:af} (a:g.cY) {n:Nat} (b:n<=300) {c:Cell} (h:iN g n c=true):bM c.kind/\bM c.n:=by
 have:=a.rules
 unfold iN at h
 unfold bM
 split at h
 .simp at h;omega
 .split at h
  .simp at h;omega
  .split at h
   .simp at h;omega
   .simp at h
theorem XH {g:af} {t:iz} (h:jK g t=true):t.Ok:=by
 have F:=wP h
 have b:=bj F.right
 have k:=b.ai;have l:=b.al;have j:=F.n300
 refine⟨by unfold aK;omega,by unfold aK;have:=F.len;omega,λr hr=>?_,λr hr=>?_⟩
 .obtain⟨i,hi,e⟩:=abv.1 hr
  have d:t.bo.getD i []=r:=by rw[aaA,aaB hi,e];rfl
  obtain⟨h1,_,a,_⟩:=F.qE hi
  rw[d] at h1 a
  exact⟨by unfold aK;omega,λc f=>VF b j (a c f)⟩
 .obtain⟨i,hi,e⟩:=abv.1 hr
  have d:t.gotos.getD i []=r:=by rw[aaA,aaB hi,e];rfl
  obtain⟨_,h1,_,a⟩:=F.qE (i:=i) (by have:=F.len;omega)
  rw[d] at h1 a
  exact⟨by unfold aK;omega,λc f=>by have:=a c f;unfold bM;omega⟩
theorem Xj {g:af} (h:(aS g).2=0):(j7 g (aS g).1).Ok:=by
 obtain⟨hr,b,a⟩:=uv h
 exact XH (HS b (iX hr) a λi x c=>((Oe h).fact i x c).1)
def O5:List aJ:=[⟨[⟨-1,0⟩],[⟨0,1⟩,⟨-1,2⟩]⟩,⟨[⟨0,1⟩],[⟨0,1⟩,⟨-1,3⟩]⟩,⟨[⟨-1,1⟩],[]⟩,⟨[⟨0,2⟩],[]⟩]
theorem YQ:aS jV=(O5,0):=by
 have hr:isRed jV=true:=by kernel_rfl
 unfold aS
 rw[aaF hr]
 exact La (mX hr) 10 0 eu O5 ma (by kernel_rfl) 302 (by omega)
theorem aDN:aS tC=([],1):=by
 unfold aS
 rw[aaD (by rw[show isRed tC=false by kernel_rfl];simp)]
theorem Za:GF jV 1=(([0],[-1]),0):=by
 unfold GF
 rw[YQ]
 have h:dF jV O5 1=([0],[-1]):=by kernel_rfl
 exact Prod.ext h rfl
theorem Zi:GF jV 4=(([],[]),11):=by
 unfold GF
 rw[YQ]
 rfl
def Qk:List zK:=[⟨0,0,[]⟩,⟨1,1,[0]⟩,⟨2,0,[]⟩,⟨3,1,[0]⟩]
theorem YE:mq jV=(Qk,0):=by
 unfold mq
 rw[YQ]
 have h:dK jV O5 4=(Qk,0):=by kernel_rfl
 exact h
theorem X7:mq tC=([],1):=by
 unfold mq
 rw[aDN]
 rfl
noncomputable def Xr:List (FuncId × DF):=zf Tryz.prog [(23,[]),(26,[])]
theorem PT:rW Tryz.prog Xr:=uR _ _
noncomputable def Wm:List Gg:=[(44,[KP Wb],Cz jV,false),(24,[.agg (ag jV),gi 1],JV (([0],[-1]),0),true),(24,[.agg (ag jV),gi 4],JV (([],[]),11),true),
 (28,[.agg (ag jV)],D7 (Qk,0),true),(28,[.agg (ag tC)],D7 ([],1),true)]
theorem UQ:∀ x∈Wm,x.Ok Tryz.prog:=by
 intro x a
 simp only[Wm,aaT,List.not_mem_nil,or_false] at a
 rcases a with rfl | rfl | rfl | rfl | rfl
 .exact⟨by kernel_rfl,.inl Y3⟩
 .exact⟨by kernel_rfl,Za ▸ M0 jV ph.1 ph.2 1⟩
 .exact⟨by kernel_rfl,Zi ▸ M0 jV ph.1 ph.2 4⟩
 .exact⟨by kernel_rfl,YE ▸ A3 jV ph.1 ph.2⟩
 .exact⟨by kernel_rfl,X7 ▸ A3 tC YF ⟨by decide⟩⟩
theorem P9:az Tryz.prog 23 [] (gb true) :=
 (pL mixed PT (Kv UQ) (by simp) (by kernel_rfl)).pure
def jv:SC :=
 ae [ae [ab [aa 42 8,aa 43 3,aN 44 43,aQ 45 .lss 42 44],bX 45 (.exit 0)],.block 1 (ae [ae [.region false [⟨none,[aa 48 3,aa 49 8,aO 50 3 48 49,ao 51 0 50,ak 52 51,aa 53 8,aQ 54 .neq 52 53,aa 55 54]⟩,⟨(some (55,false)),[aa 56 3,aa 57 8,aO 58 3 56 57,ao 59 1 58,ak 60 59,aF 61 .lss 60 0]⟩,⟨none,[cy 62 55 61,aa 63 62]⟩,⟨(some (63,false)),[aa 64 3,aa 65 8,aO 66 3 64 65,ao 67 1 66,ak 68 67,aa 69 3,aa 70 8,aO 71 3 69 70,ao 72 2 71,ak 73 72,aN 74 73,aQ 75 .gtr 68 74]⟩,⟨none,[cy 76 63 75,aa 77 76]⟩,⟨(some (77,false)),[aa 78 3,aa 79 8,aO 80 3 78 79,ao 81 2 80,ak 82 81,aN 83 82,aF 84 .gtr 83 60]⟩,⟨none,[cy 85 77 84]⟩],bb 85 (ae [ab [bB 2 false],.ret])],ab [aZ 87 4 1,aZ 88 2 5,aa 89 3,aa 90 8,aO 91 3 89 90,ao 92 2 91,ak 93 92,bk 94 18 [87,88,93],aa 86 94,dr 95 0 86,dr 96 1 86,dr 97 2 86,aa 9 95,aa 10 96,aa 11 97],.region false [⟨none,[aa 98 6,aN 99 98,aF 100 .eql 99 0,aa 101 100]⟩,⟨(some (101,true)),[aa 102 11,aF 103 .neq 102 0]⟩,⟨none,[eO 104 101 103,aa 105 104]⟩,⟨(some (105,true)),[aa 106 11,aF 107 .neq 106 14]⟩,⟨none,[eO 108 105 107]⟩],bb 108 (ae [ab [bB 2 false],.ret])]),ab [aa 46 8,aF 47 .add 46 1,aa 8 47]]
def kb:SF:=⟨ae [ab [cF 1 0,bB 2 false],ae [ab [bk 12 23 [],c9 13 12],bb 13 (ae [ab [bB 2 false],.ret])],ae [ab [aZ 14 4 1,bk 15 14 [14]],bb 15 (ae [ab [bB 2 true],.ret])],ab [aZ 17 4 1,bk 18 28 [17],aa 16 18,dr 19 0 16,dr 20 1 16,aa 3 19,aa 4 20],ae [ab [aa 21 4,aF 22 .neq 21 0],bb 22 (ae [ab [aa 23 3,aN 24 23,aF 25 .eql 24 0,aa 2 25],.ret])],ab [aZ 27 4 1,bk 28 16 [27],aa 26 28,dr 29 0 26,dr 30 1 26,dr 31 2 26,((some 5),.op (.alloc [(.emp 1),(.emp 1)])),cD 2 5 29,aa 6 30,aa 7 31],ae [.region false [⟨none,[aa 32 7,aF 33 .neq 32 0,aa 34 33]⟩,⟨(some (34,false)),[ao 35 0 5,ak 36 35,aN 37 36,aa 38 3,aN 39 38,aQ 40 .neq 37 39]⟩,⟨none,[cy 41 34 40]⟩],bb 41 (ae [ab [bB 2 false],.ret])],ae [ab [aR 8 0],bZ 0 jv],ab [bB 2 true],.ret],
 [.tmp 2],109⟩
theorem oo:aP Tryz.prog 8 [1]=some kb:=by kernel_rfl
theorem K9 {g:af} {a:List aJ} : ∀ n,(dK g a n).2=0->(dK g a n).1.length=n/\∀ i:Nat,i < n->(dK g a n).1[i]?=some (vL g a i)/\(dy g ((dF g a i).1 ++ (dF g a i).2)).2=0
 | 0,_=>⟨rfl,λi h=>by omega⟩
 | n+1,h=>by
  rw[dK] at h ⊢
  split at h
  .rename_i h1;exact absurd h h1
  .rename_i h1
   have h1:(dK g a n).2=0:=acK.1 h1
   obtain⟨i1,i2⟩:=K9 n h1
   split at h
   .rename_i b;exact absurd h b
   .rename_i b
    rw[aaD (by simp[h1]),aaD b]
    refine⟨by simp[i1],λi hi=>?_⟩
    simp only
    by_cases e:i < n
    .rw[abb (by omega)]
     exact i2 i e
    .obtain rfl:i=n:=by omega
     rw[abu (by omega),i1,Nat.sub_self]
     exact⟨rfl,acK.1 b⟩
theorem Eb {g:af} {a:List aJ} : ∀ n,(dK g a n).2≠0->(dK g a n).1=[]
 | 0,h=>absurd rfl h
 | n+1,h=>by
  rw[dK] at h ⊢
  split
  .rename_i h1
   rw[aaF h1] at h
   exact Eb n h
  .rename_i h1
   rw[aaD h1] at h
   split
   .rfl
   .rename_i b;rw[aaD b] at h;exact absurd rfl h
theorem BY (g:af) (u:g.Ok):az Tryz.prog 8 [.agg (ag g)] (gb true):=by
 refine az.val (eK g) λH=>?_
 refine aw.of mixed oo ?_
 simp(disch:=omega)only[↓wr,seval,wq,kb,ag,encS]
 refine ax.pure P9 ?_
 simp(disch:=omega)only[↓wr,seval,wq,ag,encS]
 refine ax.pure (US g) ?_
 simp(disch:=omega)only[↓wr,seval,wq]
 apply aj.split<;>intro e
 .simp(disch:=omega)only[↓wr,seval,wq]
 have x:=L6 e
 have h1:=A3 g u x
 have s:=(Pe g u).pure
 simp only[ag,encS] at h1 s
 simp(disch:=omega)only[↓wr,seval,wq,ag,encS]
 refine ax.pure h1 ?_
 simp(disch:=omega)only[↓wr,seval,wq,D7]
 apply aj.ne<;>intro h
 .have o:(mq g).1=[]:=by
   unfold mq at h ⊢
   split
   .rfl
   .rename_i a
    rw[aaD a] at h
    exact Eb _ h
  rw[o]
  simp(disch:=omega)only[↓wr,seval,wq]
 have j:(aS g).2=0:=by
  unfold mq at h
  split at h
  .assumption
  .rename_i a;exact acK.1 a
 have y:mq g=dK g (aS g).1 (aS g).1.length:=by
  unfold mq
  rw[aaD (by simp[j])]
 rw[y] at h ⊢
 obtain⟨F,G⟩:=K9 _ h
 obtain⟨hr,P,I⟩:=uv j
 have Q:=(mX hr).ai
 have A:yx g=(j7 g (aS g).1,j0 g (aS g).1 (fy g (aS g).1) (aS g).1.length,0):=by
  unfold yx yJ j7
  rw[aaF j,aaF j]
 have B:=Xj j
 rw[A] at s
 have C:(j7 g (aS g).1).bo.length=(aS g).1.length:=by simp[j7,iM]
 have q:=λi hi hw D=>Si (g:=g) j (i:=i) hi hw D
 generalize (dK g (aS g).1 (aS g).1.length).1=l at F G ⊢
 generalize j7 g (aS g).1=t at *
 generalize j0 g (aS g).1 (fy g (aS g).1) (aS g).1.length=c at *
 have r:=λw hw b=>(Pa g u t B w hw b).pure
 simp only[ag,encS,cW,O2] at r s
 simp(disch:=omega)only[↓wr,seval,wq,ag,encS]
 refine ax.pure s ?_
 simp(disch:=omega)only[↓wr,seval,wq]
 intro n b
 refine aj.ne (λa=>absurd (by rw[C,F]) a) (λ_=>?_)
 simp(disch:=omega)only[↓wr,seval,wq]
 refine ba.up l.length (λi T H'=>H' n=.arr 2 [cW t]/\T 1=.aL (ag g) 0/\T 3=.aU (l.map qF)/\T 5=.ptr n 0 0/\T 6=.aU (l0 c)/\T 8=gi i) ⟨by simp only[View.set,if_true];rfl,rfl,rfl,rfl,rfl,rfl⟩ ?_
 clear b
 rintro i k T H' hk ⟨b,t1,t3,t5,t6,t8⟩
 simp(disch:=omega)only[↓wr,seval,wq,jv,t1,t3,t5,t6,t8]
 apply aj.dec<;>intro D
 rotate_left
 .simp(disch:=omega)only[↓wr,seval,wq]
 obtain⟨m,d⟩:=G i (by omega)
 have J:=(Ke d).2
 have K:=(Db (g:=g) ((dF g (aS g).1 i).1 ++ (dF g (aS g).1 i).2)).2
 obtain⟨_,_,z3⟩:=Dw d
 have f:=q i (by omega) d
 have E:vL g (aS g).1 i=⟨i,((dy g (dF g (aS g).1 i).1).1.length:Int),(dy g ((dF g (aS g).1 i).1 ++ (dF g (aS g).1 i).2)).1⟩:=rfl
 rw[E] at m f
 have hp:=r (dy g ((dF g (aS g).1 i).1 ++ (dF g (aS g).1 i).2)).1 (by unfold aK;omega) λz L=>by have:=z3 z L;unfold bM;omega
 simp only at f
 generalize (dy g ((dF g (aS g).1 i).1 ++ (dF g (aS g).1 i).2)).1=w at *
 generalize (dy g (dF g (aS g).1 i).1).1=v at *
 generalize vd g t w=p at *
 simp(disch:=omega)only[↓wr,seval,wq,t1,t3,t5,t6,t8,aaE,m,aaH,qF]
 refine aj.ne (λa=>absurd rfl a) (λ_=>?_)
 simp(disch:=omega)only[↓wr,seval,wq,t1,t3,t5,t6,t8,aaE,m,aaH,qF]
 refine aj.dec (λa=>absurd a (by omega)) (λ_=>?_)
 simp(disch:=omega)only[↓wr,seval,wq,t1,t3,t5,t6,t8,aaE,m,aaH,qF,encI]
 refine aj.dec (λa=>absurd a (by omega)) (λ_=>?_)
 simp(disch:=omega)only[↓wr,seval,wq,t1,t3,t5,t6,t8,aaE,m,aaH,qF,encI]
 refine aj.dec (λa=>absurd a (by omega)) (λ_=>?_)
 simp only[encI] at hp
 simp(disch:=omega)only[↓wr,seval,wq,t1,t3,t5,t6,t8,aaE,m,aaH,qF,encI,ag,encS,b,cW]
 refine ax.pure hp ?_
 simp(disch:=omega)only[↓wr,seval,wq,t1,t3,t5,t6,t8,encI]
 have M:(l0 c).length=c.length:=by simp[l0]
 apply aj.eq<;>intro a
 .have hr:=f (abU.1 (by omega))
  simp(disch:=omega)only[↓wr,seval,wq,t1,t3,t5,t6,t8]
  apply aj.ne<;>intro N
  .simp(disch:=omega)only[↓wr,seval,wq,t1,t3,t5,t6,t8]
   refine aj.ne (λO=>absurd hr (by omega)) (λO=>?_)
   simp(disch:=omega)only[↓wr,seval,wq,t1,t3,t5,t6,t8]
   exact aG hk (by omega) ⟨b,t1,t3,t5,t6,rfl⟩
  .simp(disch:=omega)only[↓wr,seval,wq,t1,t3,t5,t6,t8]
   exact aG hk (by omega) ⟨b,t1,t3,t5,t6,rfl⟩
 .simp(disch:=omega)only[↓wr,seval,wq,t1,t3,t5,t6,t8]
  exact aG hk (by omega) ⟨b,t1,t3,t5,t6,rfl⟩
end Gv
