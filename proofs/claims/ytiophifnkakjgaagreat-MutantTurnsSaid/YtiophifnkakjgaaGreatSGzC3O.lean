/-
  Part 15 of the proof: what the machine does and what the functions answer.
  Conditions: those that each lemma names.
-/
import Derived.Test.YtiophifnkakjgaaGreatSGzC3N
set_option linter.unusedSimpArgs false
set_option linter.unusedVariables false
set_option maxRecDepth 100000
set_option maxHeartbeats 20000000
namespace Gv
open Go Go.Proofs
theorem cg.two {H:View} {q:Nat} {v1 v2 t1 t2:V} (b:H q=.arr 1 [[v1],[v2]]) (h1:cg H v1 t1) (c:cg H v2 t2):cg H (.sl q 0 2 1) (.aL [[t1],[t2]]):=by
 rintro h rfl
 refine .sl q 0 2 1 1 [[v1],[v2]] [[t1],[t2]] b (by simp) rfl (λi hi=>?_) (λi j hi a=>?_)
 .match i,hi with
  | 0,_=>rfl
  | 1,_=>rfl
 .match i,hi with
  | 0,_ =>
   have:j=0:=by simp at a;omega
   subst this
   exact h1 h rfl
  | 1,_ =>
   have:j=0:=by simp at a;omega
   subst this
   exact c h rfl
theorem qX (x y:List Int) (a:x.length+y.length<=1000000):cd Tryz.prog 68 [.aL [[encI x],[encI y]]] (encI (x ++ y)):=by
 have:=Nv [x,y] (by simp;omega) (by simp)
 simpa using this
theorem dU.U4 {g:ag} {a:List aR} (b:dU g a) (d:a.length<=300):∀ s∈a,aC s.cK/\∀ e∈s.cK,ba e.sym/\ba e.to:=λs c=>⟨by have:=b.ok.cK s c;unfold aC;omega,λe he=>by
 have h1:=b.ok.sym s c e he
 have f:=b.ok.to s c e he
 unfold ba;omega⟩
theorem eT.up {H:View} {b:Nat} {g:ag} {a:List aR} {l:List bB} {B B':Nat} {K:List ed} (h:eT H b g a l B K) (f:B<=B'):eT H b g a l B' K:=by
 obtain⟨q,us,d,S,m,c,w⟩:=h
 exact⟨q,us,d,S,m,c,w.own,w.map,w.born,λk=>by
  obtain⟨n,h1,i,e⟩:=w.seen k
  exact⟨n,h1,by omega,e⟩,w.is,w.ok⟩
theorem eT.fresh {H:View} {b:Nat} {g:ag} {a:List aR} {l:List bB} {B:Nat} {K:List ed} (h:eT H b g a l B K) {n:Nat} (d:H n=.dead) {o:bN} : eT (H.set n o) b g a l B K:=by
 obtain⟨q,us,e,S,m,c,w⟩:=h
 refine⟨q,us,e,S,m,c,w.own.fresh d,?_,w.born,w.seen,w.is,w.ok⟩
 have:¬ q=n:=by rintro rfl;have:=w.map;rw[d] at this;simp at this
 simp[View.set,this,w.map]
theorem eT.stay {H H':View} {b:Nat} {g:ag} {a:List aR} {l:List bB} {B:Nat} {K:List ed} (h:eT H b g a l B K) (hk:∀ id,H id≠.dead->H' id=H id):eT H' b g a l B K:=by
 obtain⟨q,us,d,S,m,c,w⟩:=h
 exact⟨q,us,d,S,m,c,w.own.stay hk,by rw[hk q (by rw[w.map];simp)];exact w.map,w.born,w.seen,w.is,w.ok⟩
theorem B8 {α:Type} {x y z e:α} {K:List α} : (x :: y :: z :: e :: K).Perm (e :: x :: y :: z :: K):=List.perm_middle (l₁:=[x,y,z])
theorem eT.drop {H:View} {b:Nat} {g:ag} {a:List aR} {l:List bB} {B:Nat} {e:ed} {K:List ed} (h:eT H b g a l B (e :: K)):eT H b g a l B K:=by
 obtain⟨q,us,d,S,m,c,w⟩:=h
 exact⟨q,us,d,S,m,c,(w.own.perm B8).tail,w.map,w.born,w.seen,w.is,w.ok⟩
theorem eT.add {H:View} {b:Nat} {g:ag} {a:List aR} {l:List bB} {B:Nat} {K:List ed} (h:eT H b g a l B K) {H':View} {u:V} {sz:Nat} {es:List (List V)} (e:aH H' u sz es) (d:cM H H' u):eT H' b g a l B ((u,sz,es) :: K):=by
 obtain⟨q,us,f,S,m,c,w⟩:=h
 exact⟨q,us,f,S,m,c,(w.own.MQ e d).perm B8.symm,by rw[(d q (by rw[w.map];simp)).1];exact w.map,w.born,w.seen,w.is,w.ok⟩
theorem eT.box {H:View} {b:Nat} {g:ag} {a:List aR} {l:List bB} {B:Nat} {K:List ed} (h:eT H b g a l B K):∃ q us d,H b=.arr 8 [pU g a q us d]:=by
 obtain⟨q,us,d,S,m,c,w⟩:=h
 exact⟨q,us,d,w.own.is 2 rfl (by simp)⟩
def lR:SC :=
 ai [af [aZ 66 .lss 65 64],cp 66 (.exit 0),.block 1 (ai [af [aa 67 65,aY 68 3 63 65,bj 69 3 68,((some 10),.op (.alloc [(.val (.int .i64 0)),(.emp 1),(.val (.int .i64 0))])),aa 9 67,df 3 10 69],af [ay 70 0 10,au 71 70,aa 72 5,((some 73),.op (.arith .sub (.val (.val (.int .i64 (-1)))) (.tmp 72))),aZ 74 .eql 71 73],bf 74 (af [aa 75 0,ay 76 0 3,ay 77 0 76,au 78 77,aa 79 9,((some 80),.op (.build [(.val (.int .i64 0)),(.val (.int .i64 0))] [(0,1,(.tmp 79))])),((some 81),.op (.build [(.val (.int .i64 0)),(.val (.int .i64 0)),(.val (.int .i64 0))] [(0,1,(.tmp 78)),(1,2,(.tmp 80))])),ay 82 3 3,au 83 82,aa 84 4,((some 85),.op (.slice 1 (.tmp 84) (some (.val (.val (.int .i64 1)))) none)),ay 86 4 3,au 87 86,((some 88),.op (.bS 2 1 [(.emp 1)] [(0,(.tmp 85)),(1,(.tmp 87))])),((some 89),.sX (.val (.fn 68 [] [])) [(.tmp 88)]),((some 90),.op (.build [(.val (.int .i64 0)),(.val (.int .i64 0)),(.val (.int .i64 0)),(.emp 1),(.emp 1)] [(0,3,(.tmp 81)),(3,1,(.tmp 83)),(4,1,(.tmp 89))])),aT 91 125 [75,90]])]),af [aF 92 .add 65 1,aa 65 92]]
def nk:SF:=⟨ai [af [cJ 3 1],af [aa 11 0,ay 12 0 3,ay 13 1 12,bj 14 2 13,aT 15 127 [11,14],aa 4 15],ai [af [aa 16 4,aQ 17 16,aF 18 .eql 17 0],bf 18 (.ret)],af [aa 19 4,((some 20),.op (.idx 1 (.tmp 19) (.val (.val (.int .i64 0))))),au 21 20,aa 5 21],af [aa 23 0,eW 24 23,ay 25 4 24,au 26 25,ay 27 0 3,ay 28 0 27,au 29 28,aa 30 4,((some 31),.op (.slice 1 (.tmp 30) none (some (.val (.val (.int .i64 1)))))),aT 32 193 [26,29,31],aa 22 32,dO 33 0 22,dO 34 1 22,aa 6 33,aa 7 34],af [ay 35 0 3,ay 36 1 35,ay 37 0 36,au 38 37,ay 39 0 3,ay 40 1 39,ay 41 1 40,au 42 41,aF 43 .add 42 1,((some 44),.op (.build [(.val (.int .i64 0)),(.val (.int .i64 0))] [(0,1,(.tmp 38)),(1,1,(.tmp 43))])),((some 8),.op (.alloc [(.val (.int .i64 0)),(.val (.int .i64 0))])),df 2 8 44],af [aa 45 0,aa 46 6,bj 47 2 8,((some 48),.op (.build [(.val (.int .i64 0)),(.val (.int .i64 0)),(.val (.int .i64 0))] [(0,1,(.tmp 46)),(1,2,(.tmp 47))])),ay 49 3 3,au 50 49,aa 51 4,((some 52),.op (.slice 1 (.tmp 51) none (some (.val (.val (.int .i64 1)))))),((some 53),.op (.bS 2 1 [(.emp 1)] [(0,(.tmp 50)),(1,(.tmp 52))])),((some 54),.sX (.val (.fn 68 [] [])) [(.tmp 53)]),ay 55 4 3,au 56 55,((some 57),.op (.build [(.val (.int .i64 0)),(.val (.int .i64 0)),(.val (.int .i64 0)),(.emp 1),(.emp 1)] [(0,3,(.tmp 48)),(3,1,(.tmp 54)),(4,1,(.tmp 56))])),aT 58 125 [45,57]],af [aa 59 0,eW 60 59,ay 61 0 60,ay 62 2 61,au 63 62,aQ 64 63,bb 65 0],cz 0 lR],
 [],93⟩
theorem so:aG Tryz.prog 126 [3,200054,200089]=some nk:=by kernel_rfl
theorem QK (g:ag) (hg:g.Ok) (a:List aR) (D:dU g a) (h3:a.length<=300) (b:Nat) (l:List bB) (hl:jx g a l) (s:r7) (hs:s.Ok) (i:Nat) (hi:l[i]?=some s.n) (B:Nat) (hB:B < 100000000) (K:List ed) (H:View) (hW:eT H b g a l B K) :
  ao Tryz.prog 126 [.ptr b 0 0,.agg (iY s)] H λ_ H'=>eT H' b g a (ja g a l s.n) (B+41) K:=by
 have U:=D.iS
 have hT:=U.an;have hN:=U.ax;have cA:=U.rules
 have f:=hl.nd s.n (WI hi)
 have A:=D.has f.lt f.it
 have cN:=hl.len i s.n hi
 have cS:=(Wy.1 hi).1
 have cV:=hl.short D h3
 have c5:=f.small D
 have cC:=rm U
 have b3:=A
 obtain⟨⟨c6,da⟩,dc,dj⟩:=b3
 obtain⟨⟨E,F,ds⟩,⟨W,X,dv⟩⟩:=And.intro hs.a.fF hs.b.fF
 obtain⟨q,us,uf,hb⟩:=hW.box
 have p:=KB g (by unfold ba;omega) a q us uf b H hb s.n.it A
 simp only[fi] at p
 have G:aC a:=by unfold aC;omega
 refine ao.of mixed so ?_
 simp(disch:=omega)only[↓wr,seval,wq,nk,iY,E,F,W,X]
 refine aq.bX (p.mono ?_)
 clear p
 rintro u H1 ⟨hu,Y⟩
 have a6:cT u=some (fh g s.n.it).length:=by
  rcases hu with rfl | ⟨n,x,d,rfl,_⟩
  .simp[encI,cT]
  .rfl
 have a7:(fh g s.n.it).length=(bW g s.n.it.av).length - s.n.it.dot.toNat:=by unfold fh;simp
 simp(disch:=omega)only[↓wr,seval,wq,a6]
 apply aj.eq<;>intro he
 .simp(disch:=omega)only[↓wr,seval,wq]
  have J:(bJ g s.n.it).2=false:=by
   unfold bJ
   rw[Wv (by omega)]
  have:ja g a l s.n=l:=by
   unfold ja
   rw[Ws (by rw[J];simp)]
  rw[this]
  exact(hW.stay λid Z=>(Y id Z).1).up (by omega)
 obtain⟨y,J⟩:∃ y,bJ g s.n.it=(y,true):=by
  unfold bJ
  rw[Ws (by omega)]
  exact⟨_,rfl⟩
 obtain⟨f1,f2⟩:=pZ A J
 have b4:ja g a l s.n=nU g s.n y g.rules.length (kG l ⟨jX a s.n.st y,⟨s.n.it.av,s.n.it.dot+1⟩,s.n.ah ++ [y],s.n.be⟩):=by
  unfold ja
  rw[J,Wv rfl]
 rw[b4]
 rw[f1] at hu a6 a7
 obtain⟨s1,s2,s3,s4⟩:=D.step f.lt f.it J
 obtain⟨_,_,_,_,_,b5⟩:=D.jX s1
 have ab:dZ g y=true:=wP U A J
 have b8 : -100<=y/\y<=100:=by
  unfold dZ at ab
  split at ab <;> simp at ab <;> omega
 have cI:(jG g s.n.it).length<=6:=by
  have:=fg U (r:=s.n.it.av) ⟨by omega,by omega⟩
  simp only[WD] at a7
  omega
 obtain⟨m1,m2,m3⟩:=Gk D hl (f.move D J) (by simp only[WO,WD,WW];omega) (by simp only;omega)
 have hle:l.length<=(kG l ⟨jX a s.n.st y,⟨s.n.it.av,s.n.it.dot+1⟩,s.n.ah ++ [y],s.n.be⟩).length:=by obtain⟨t,ht⟩:=m2;rw[ht];simp
 have b9:=λk hk=>Ie D f J k _ hk m1 (by omega) (by omega)
 have ae:=Qw a G (D.U4 h3) s.n.st [y] (by unfold aC;simp)
 rw[b5] at ae
 have L:=qX s.n.ah [y] (by simp;omega)
 have M:=qX (jG g s.n.it) s.n.be (by omega)
 generalize a8:jG g s.n.it=rs at *
 have al:∃ N O P,(u=encI (y :: rs)∨∃ n,u=.sl n 0 1 1/\H1 n=.arr 1 [[gi y]])/\cY 1 u none (some (gi 1))=some (O,.none,[])/\cY 1 u (some (gi 1)) none=some (P,.none,[])/\aE O=true/\V.cells O=[O]/\aE P=true/\V.cells P=[P] /\
   (∀ H' e1 e2 e3,bu H' (e1 :: e2 :: e3 :: N)->cg H' O (encI [y])/\cg H' P (encI rs))/\(∀ H' l B,eT H' b g a l B N->eT H' b g a l B K)/\eT H1 b g a l B N:=by
  rcases hu with rfl | ⟨n,x,d,rfl,h2,h4,h5⟩
  .refine⟨K,encI [y],encI rs,.inl rfl,?_,?_,rfl,rfl,rfl,rfl,λH' _ _ _ _=>⟨.tree (aX _),.tree (aX _)⟩,λ_ _ _ h=>h,hW.stay λid Z=>(Y id Z).1⟩
   .exact wC (l:=y :: rs) (k:=1) (by simp)
   .exact vw (l:=y :: rs) (k:=1) (by simp)
  .match d,h4 with
   | 0,_ =>
    simp only[X1,List.cons.injEq] at h5
    obtain⟨rfl,rfl⟩:=h5
    refine⟨(.sl n 0 1 1,1,[[gi y]]) :: K,.sl n 0 1 1,.sl n 1 0 1,.inr ⟨n,rfl,h2⟩,?_,?_,rfl,rfl,rfl,rfl,λH' e1 e2 e3 ho=>?_,λ_ _ _ h=>h.drop,hW.add (.inr ⟨n,rfl,h2⟩) Y⟩
    .exact HJ (sz:=1) (id:=n) (off:=0) (k:=1) (m:=1) (by omega)
    .exact ze (sz:=1) (id:=n) (off:=0) (k:=1) (m:=1) (by omega)
    .have hH:=ho.is 3 rfl (by simp)
     have t:∀ e∈[[gi y]],∀ v∈e,Tree v:=by intro e he v hv;simp at he;subst he;simp at hv;subst hv;exact .val _
     have r1:ta H' (.sl n 0 [y].length 1) [y]:=.inr ⟨n,y,0,rfl,hH,by omega,rfl⟩
     have r2:ta H' (.sl n 1 ([]:List Int).length 1) []:=.inr ⟨n,y,1,rfl,hH,by omega,rfl⟩
     exact⟨r1.mK,r2.mK⟩
   | 1,_=>simp at h5
 obtain⟨N,O,P,ca,I,bd,c1,c2,c3,c4,cb,bl,ar⟩:=al
 clear hW hu
 obtain⟨q1,ea,eb,bn⟩:=ar.box
 have z:∀ H' l B,eT H' b g a l B N->cg H' O (encI [y])/\cg H' P (encI rs):=λH' l B h=>by
  obtain⟨q,us,uf,S,m,c,w⟩:=h
  exact cb H' _ _ _ w.own
 have cc:r7.Ok ⟨⟨jX a s.n.st y,⟨s.n.it.av,s.n.it.dot+1⟩,s.n.ah ++ [y],s.n.be⟩,encI (s.n.ah ++ [y]),s.b⟩:=⟨.inl rfl,hs.b⟩
 have cf:∀ k:Nat,r7.Ok ⟨⟨s.n.st,⟨k,0⟩,s.n.ah,rs ++ s.n.be⟩,s.a,encI (rs ++ s.n.be)⟩:=λk=>⟨hs.a,.inl rfl⟩
 have Q:=bd
 obtain⟨u',br⟩:∃ u',u=u':=⟨u,rfl⟩
 rw[br] at Q
 have a1:∀ (x:Int) (t:Bool),x8 (.aO [gi x,gb t]):=λx t=>.aO _ λi hi=>by
  match i,hi with
  | 0,_=>exact⟨_,rfl⟩
  | 1,_=>exact⟨_,rfl⟩
 have ch:∀ k:Nat,k < g.rules.length->g.rules[k]?=some (bT g k):=λk hk=>by unfold bT;exact getD_some (by simpa using hk)
 simp only[encI] at ae L M
 rcases ca with rfl | ⟨n,rfl,cj⟩
 focus
  simp only[encI,aM,WZ] at I bd
  simp(disch:=omega)only[↓wr,seval,wq,iY,encI,bn,I,WX]
 rotate_left
 focus
  simp(disch:=omega)only[↓wr,seval,wq,iY,encI,bn,cj,I]
 all_goals (
  refine aq.tQ ae (by kernel_rfl) (a1 _ _) ⟨.tree (An a),.tree (.val _),(z _ _ _ ar).1,trivial⟩ ?_
  simp(disch:=omega)only[↓wr,seval,wq,iY]
  intro n8 bs
  have w2:=ar.fresh (o:=.arr 2 [[gi s.n.it.av,gi (s.n.it.dot+1)]]) bs
  simp(disch:=omega)only[↓wr,seval,wq,iY,I,c1,c2,E,F]
  rw[set_set]
  intro n9 C
  obtain⟨ck,C⟩:=dg C dG
  obtain⟨_,C⟩:=dg C dG
  have w3:=w2.fresh (n:=n9) (o:=.arr 1 [[s.a],[O]]) (by simp[View.set,ck,C])
  try simp(disch:=omega)only[↓wr,seval,wq,iY]
  refine aq.iM L (by kernel_rfl) ⟨cg.two (by simp[View.set]) hs.a.mK (z _ _ _ w3).1,trivial⟩ ?_
  simp(disch:=omega)only[↓wr,seval,wq,iY,W,X]
  have hm:=Dv g a b l B (by omega) (by omega) _ cc s4 N _ w3
  simp only[iY,encI] at hm
  refine aq.bX (hm.mono ?_)
  clear hm
  rintro _ H5 w5
  obtain⟨q5,ee,ef,bx⟩:=w5.box
  simp(disch:=omega)only[↓wr,seval,wq,bx]
  refine bk.up g.rules.length (λk T H'=>eT H' b g a (nU g s.n y k (kG l ⟨jX a s.n.st y,⟨s.n.it.av,s.n.it.dot+1⟩,s.n.ah ++ [y],s.n.be⟩)) (B+1+k) N/\T 0=.ptr b 0 0/\T 3=.aN (iY s) 0/\T 4=u'/\T 5=gi y/\T 63=.aL (g.rules.map aU)/\T 64=gi g.rules.length/\T 65=gi k)
   ⟨w5,rfl,rfl,br,rfl,rfl,rfl,rfl⟩ ?_
  clear w2 w3 w5 bx bs C
  rintro k kk T H6 b0 ⟨w6,t0,t3,t4,t5,t63,t64,t65⟩
  simp(disch:=omega)only[↓wr,seval,wq,lR,t0,t3,t4,t5,t63,t64,t65]
  apply aj.dec<;>intro hc
  .have hR:=ch k (by omega)
   have cu:=U.left _ (WI hR)
   generalize b1:bT g k=R at hR cu
   simp(disch:=omega)only[↓wr,seval,wq,t0,t3,t4,t5,t63,t64,t65,Ww,hR,WL,aU,encI]
   intro n10 b2
   have w7:=w6.fresh (o:=.arr 3 [aU R]) b2
   apply aj.eq<;>intro e
   .simp(disch:=omega)only[↓wr,seval,wq,t0,t3,t4,t5,t63,t64,t65,Q,iY,E,F,W,X,c3,c4]
    intro n11 j
    obtain⟨cv,j⟩:=dg j dG
    obtain⟨_,j⟩:=dg j dG
    have w8:=w7.fresh (n:=n11) (o:=.arr 1 [[P],[s.b]]) (by simp[View.set,cv,j])
    rw[set_set]
    try simp(disch:=omega)only[↓wr,seval,wq,t0,t3,t4,t5,t63,t64,t65,iY]
    refine aq.iM M (by kernel_rfl) ⟨cg.two (by simp[View.set]) (z _ _ _ w8).2 hs.b.mK,trivial⟩ ?_
    simp(disch:=omega)only[↓wr,seval,wq,t0,t3,t4,t5,t63,t64,t65,iY,E,F]
    obtain⟨r1,_,_⟩:=b9 k (by omega)
    have eg:=r1.short D h3
    have hm:=Dv g a b _ (B+1+k) (by omega) (by omega) _ (cf k) f.lt N _ w8
    simp only[iY,encI] at hm
    refine aq.bX (hm.mono ?_)
    clear hm
    rintro _ H9 w9
    simp(disch:=omega)only[↓wr,seval,wq,t0,t3,t4,t5,t63,t64,t65]
    refine aJ b0 (by omega) ⟨?_,t0,t3,t4,t5,t63,t64,rfl⟩
    rw[nU,Wv (by rw[b1];exact e),a8]
    exact w9
   .simp(disch:=omega)only[↓wr,seval,wq,t0,t3,t4,t5,t63,t64,t65]
    refine aJ b0 (by omega) ⟨?_,t0,t3,t4,t5,t63,t64,rfl⟩
    rw[nU,Ws (by rw[b1];exact e)]
    have w9:=w7.up (B':=B+1+(k+1)) (by omega)
    try rw[set_set]
    exact w9
  .simp(disch:=omega)only[↓wr,seval,wq,t0]
   obtain rfl:k=g.rules.length:=by omega
   exact(bl _ _ _ w6).up (by omega))
section
variable {P:Program} {T:Env} {H:View} {K:V->View->Prop} {w:ct (T,H,K)} {t t1 e ty:TypeId}
theorem Lh {d x:Operand} {id off len sz bytes s:Nat} {z:List V} {es xs:List (List V)} {rd:List Nat} (he:og P t=some (sz,bytes,z)) (g:ev T d=.sl id off len sz) (h:bD H (ev T x)=some (xs,rd)) (hH:H id=.arr s es) (i:off+len<=es.length)
  (j:(xs.all λe=>e.length == sz && e.all aE)=true) (k:(xs.take len).isEmpty=false) (hk:K (bU (xs.take len).length) (H.set id (.arr sz (dV es off (xs.take len))))) :
  iZ P (.call { callee:=.builtin .copy,args:=#[d,x],argTypes:=#[t,t1] }) ty T H K w:=by
 obtain⟨e,ti,a,hi,b,m,l,f,c,rfl,rfl⟩:=kg he
 intro n _
 refine⟨bU (xs.take len).length,.eP id (.arr ti.size (dV es off (xs.take len))),id :: rd,?_,hk⟩
 simp only[sI,bR,oper]
 simp[vW,a,g,h,cT,b,k,hH,i,c,j]
theorem QF {d x:Operand} {k:Nat} {sz bytes:Nat} {z:List V} {xs:List (List V)} {rd:List Nat} (he:og P t=some (sz,bytes,z)) (f:ev T d=.emp k) (g:bD H (ev T x)=some (xs,rd)) (hk:K (bU 0) H) :
  iZ P (.call { callee:=.builtin .copy,args:=#[d,x],argTypes:=#[t,t1] }) ty T H K w:=by
 obtain⟨e,ti,a,hi,b,j,h,c,i,rfl,rfl⟩:=kg he
 intro n _
 refine⟨bU 0,.none,[],?_,hk⟩
 simp only[sI,bR,oper]
 simp[vW,a,f,g,cT,b]
end
theorem tG:∀ (xs A B:List (List V)),xs.length<=B.length->dV (A ++ B) A.length xs=A ++ xs ++ B.drop xs.length
 | [],A,B,_=>by simp[dV]
 | x :: r,A,[],h=>by simp at h
 | x :: r,A,b :: B,h=>by
  rw[dV,List.set_append_right _ _ (Wz _),Nat.sub_self,List.set_cons_zero]
  have:=tG r (A ++ [x]) B (by simpa using h)
  simpa using this
theorem z7 {id off k m:Nat} (hm:m<=k):cY 1 (.sl id off k 1) (some (gi m)) none=some (.sl id (off+m) (k - m) 1,.none,[]):=by
 simp[cY,bound,asNat,hm]
def u64 (n:Int):V:=.val (.int .u64 n)
noncomputable def Qc:List (FuncId × DF):=vH Tryz.prog [(180,[]),(237,[])]
theorem OM:pN Tryz.prog Qc:=r6 _ _
noncomputable def Un (n:Nat):Bool:=match rF Tryz.prog Qc (LS []) 180 [u64 1,u64 n] with
 | some (.aO [.val (.int .u64 a),.val (.int .u64 b)])=>a == 0 && b == n
 | _=>false
theorem SM:(List.range 321).all Un=true:=by kernel_rfl
theorem Ty {n:Nat} (h:n<=320):az Tryz.prog 180 [u64 1,u64 n] (.aO [u64 0,u64 n]):=by
 have c:=WU.1 SM n (XA.2 (by omega))
 unfold Un at c
 split at c
 .rename_i a b he
  simp only[WC,Xw] at c
  obtain⟨rfl,rfl⟩:=c
  exact(nR mixed OM (IM (l:=[]) (by simp)) (by intro v d;simp at d;rcases d with rfl | rfl <;> exact .val _) he).pure
 .simp at c
def gv:SC :=
 ai [ai [af [aa 34 8,aa 35 7,aQ 36 35,aZ 37 .lss 34 36],cp 37 (.exit 0)],.block 1 (af [aa 38 8,aa 39 7,aa 40 8,((some 41),.op (.slice 1 (.tmp 39) (some (.tmp 40)) none)),aa 42 7,aa 43 8,((some 44),.op (.slice 1 (.tmp 42) none (some (.tmp 43)))),((some 45),.op (.old (.call { callee:=.builtin .copy,args:=#[(.tmp 41),(.tmp 44)],argTypes:=#[27,27] }) 3)),aZ 46 .add 38 45,aa 8 46])]
def kn:SF:=⟨ai [af [b7 4 1],ai [af [aa 9 1,aF 10 .lss 9 0],bf 10 (.region false [⟨none,[((some 11),.op (.old (.makeInterface 9 (.const (.string ⟨#[99,97,110,110,111,116,32,98,101,32,110,101,103,97,116,105,118,101]⟩))) 20)),(none,.op (.old (.panic (.tmp 11)) 0))]⟩])],af [aa 13 0,aQ 14 13,((some 15),.op (.conv .u64 (.tmp 14))),aa 16 1,((some 17),.op (.conv .u64 (.tmp 16))),aT 18 180 [15,17],aa 12 18,dO 19 0 12,dO 20 1 12,aa 5 19,aa 6 20],ai [.region false [⟨none,[aa 21 5,((some 22),.op (.arith .gtr (.tmp 21) (.val (.val (.int .u64 0))))),aa 23 22]⟩,⟨(some (23,false)),[aa 24 6,((some 25),.op (.arith .gtr (.tmp 24) (.val (.val (.int .u64 9223372036854775807)))))]⟩,⟨none,[b6 26 23 25]⟩],bf 26 (.region false [⟨none,[((some 27),.op (.old (.makeInterface 9 (.const (.string ⟨#[116,104,101,32,114,101,115,117,108,116,32,111,102,32,40,108,101,110,40,120,41,32,42,32,99,111,117,110,116,41,32,111,118,101,114,102,108,111,119,115]⟩))) 20)),(none,.op (.old (.panic (.tmp 27)) 0))]⟩])],af [aa 28 6,((some 29),.op (.conv .i64 (.tmp 28))),((some 30),.op (.make 1 8 [(.val (.int .i64 0))] (.tmp 29) (.tmp 29))),aa 7 30],af [aa 31 7,aa 32 0,((some 33),.op (.old (.call { callee:=.builtin .copy,args:=#[(.tmp 31),(.tmp 32)],argTypes:=#[27,27] }) 3)),aa 8 33],cz 0 gv,af [aa 47 7,aa 4 47],.ret],
 [.tmp 4],48⟩
theorem oO:aG Tryz.prog 115 []=some kn:=by kernel_rfl
theorem Mx (n:Nat) (v:n<=320) (m:Nat) (H:View) (hm:H m=.arr 1 [[gi (-1)]]):ao Tryz.prog 115 [.sl m 0 1 1,gi n] H λr H'=>aH H' r 1 (aM (List.replicate n (-1)))/\cM H H' r:=by
 refine ao.of mixed oO ?_
 have hmul:=Ty v
 unfold u64 at hmul
 have i:IntKind.u64.wrap 1=1:=by decide
 have j:IntKind.u64.wrap (n:Int)=n:=by
  unfold IntKind.wrap
  have w:(2:Int) ^ IntKind.u64.bits=18446744073709551616:=by rfl
  have x:IntKind.u64.signed=false:=by rfl
  simp only[w,x,XQ,WH]
  simp
  omega
 have f:IntKind.i64.wrap (n:Int)=n:=wrap64 (by omega) (by omega)
 simp(disch:=omega)only[↓wr,seval,wq,kn]
 refine aj.dec (λh=>absurd h (by omega)) (λ_=>?_)
 simp(disch:=omega)only[↓wr,seval,wq]
 rw[i,j]
 refine aq.pure hmul ?_
 simp(disch:=omega)only[↓wr,seval,wq,f]
 refine aj.dec (λh=>absurd h (by omega)) (λ_=>?_)
 simp(disch:=omega)only[↓wr,seval,wq,f]
 refine⟨⟨by omega,by unfold aD;omega,by unfold aD;omega⟩,λp=>?_,λp b g=>?_⟩
 .refine QF (k:=2) (sz:=1) (bytes:=8) (z:=[gi 0]) (xs:=[[gi (-1)]]) (rd:=[m]) (by kernel_rfl) (by simp(disch:=omega)only[↓wr,seval,wq]) (by simp(disch:=omega)only[↓wr,seval,wq];simp[bD,hm]) ?_
  simp(disch:=omega)only[↓wr,seval,wq]
  refine bk.intro (λk T H'=>H'=H/\T 7=.emp 2/\T 8=bU 0) 0 ⟨rfl,rfl,rfl⟩ ?_
  rintro k T _ ⟨rfl,t7,t8⟩
  simp(disch:=omega)only[↓wr,seval,wq,gv,t7,t8]
  refine⟨?_,λid a=>⟨rfl,by simp[owner]⟩⟩
  rw[p];exact .nil
 have l:¬ m=b:=by rintro rfl;rw[hm] at g;simp at g
 refine Lh (id:=b) (off:=0) (len:=n) (sz:=1) (bytes:=8) (z:=[gi 0]) (s:=1) (es:=List.replicate n [gi 0]) (xs:=[[gi (-1)]]) (rd:=[m]) (by kernel_rfl) (by simp(disch:=omega)only[↓wr,seval,wq]) (by simp(disch:=omega)only[↓wr,seval,wq];simp[bD,View.set,l,hm]) (by simp[View.set]) (by simp) (by simp[aE]) (by obtain⟨q,rfl⟩:∃ q,n=q+1:=⟨n - 1,by omega⟩;rfl) ?_
 rw[show ([[gi (-1)]]:List (List V)).take n=List.replicate 1 [gi (-1)] by obtain⟨q,rfl⟩:∃ q,n=q+1:=⟨n - 1,by omega⟩;simp,
  show dV (List.replicate n [gi 0]) 0 (List.replicate 1 [gi (-1)])=List.replicate 1 [gi (-1)] ++ List.replicate (n - 1) [gi 0] by
   have:=tG (List.replicate 1 [gi (-1)]) [] (List.replicate n [gi 0]) (by simp;omega)
   simpa using this,Yl]
 simp(disch:=omega)only[↓wr,seval,wq]
 rw[set_set]
 refine bk.intro (λk T H'=>∃ c:Nat,1<=c/\c+k=n/\H' b=.arr 1 (List.replicate c [gi (-1)] ++ List.replicate (n - c) [gi 0])/\(∀ id,H id≠.dead->H' id=H id)/\T 7=.sl b 0 n 1/\T 8=gi c) (n - 1) ⟨1,by omega,by omega,by simp[View.set],λid a=>?_,rfl,rfl⟩ ?_
 .have:¬ id=b:=by rintro rfl;exact a g
  simp[View.set,this]
 rintro k T H' ⟨c,c1,B,hH,e,t7,t8⟩
 simp(disch:=omega)only[↓wr,seval,wq,gv,t7,t8]
 apply aj.dec<;>intro y
 .simp(disch:=omega)only[↓wr,seval,wq,t7,t8,z7 (id:=b) (off:=0) (k:=n) (m:=c) (by omega),zQ (id:=b) (off:=0) (k:=n) (m:=c) (by omega)]
  have o:bD H' (.sl b 0 c 1)=some (List.replicate c [gi (-1)],[b]):=by
   obtain⟨q,rfl⟩:∃ q,c=q+1:=⟨c - 1,by omega⟩
   simp only[bD,hH]
   rw[Wv (by simp)]
   simp
  obtain⟨d,t⟩:∃ d,d=min (n - c) c:=⟨_,rfl⟩
  refine Lh (id:=b) (off:=c) (len:=n - c) (sz:=1) (bytes:=8) (z:=[gi 0]) (s:=1) (es:=List.replicate c [gi (-1)] ++ List.replicate (n - c) [gi 0]) (xs:=List.replicate c [gi (-1)]) (rd:=[b]) (by kernel_rfl) (by simp(disch:=omega)only[↓wr,seval,wq]) (by simp(disch:=omega)only[↓wr,seval,wq];exact o) hH (by simp) (by simp[aE]) ?_ ?_
  .rw[List.take_replicate,<-t]
   obtain⟨q,A⟩:∃ q,d=q+1:=⟨d - 1,by omega⟩
   rw[A];rfl
  have u:=tG (List.replicate d [gi (-1)]) (List.replicate c [gi (-1)]) (List.replicate (n - c) [gi 0]) (by simp;omega)
  rw[Yl] at u
  rw[List.take_replicate,<-t,u,Yl]
  simp(disch:=omega)only[↓wr,seval,wq,t7,t8]
  refine⟨n - (c+d),by omega,c+d,by omega,by omega,?_,λid a=>?_,rfl⟩
  .simp[View.set,List.drop_replicate,<-List.replicate_append_replicate,show n - c - d=n - (c+d) by omega]
  .have:¬ id=b:=by rintro rfl;exact a g
   simp[View.set,this];exact e id a
 .simp(disch:=omega)only[↓wr,seval,wq,t7]
  obtain rfl:c=n:=by omega
  refine⟨.inr ⟨b,by simp,by rw[hH];simp[aM]⟩,λid a=>⟨e id a,?_⟩⟩
  simp only[owner,ne_eq,Wu]
  rintro rfl;exact a g
section
variable {g:ag} {a:List aR}
def mG (g:ag) (l:List bB):Prop:=∀ x∈l,∀ s∈x.ah ++ x.be,dZ g s=true
theorem PB (b:g.cP) {r:Int} (hr : -1<=r/\r < g.rules.length):∀ s∈bW g r,dZ g s=true:=by
 unfold bW
 split
 .intro s a
  simp at a
  subst a
  have:=b.lX;have:=b.start
  unfold dZ
  rw[Ws (by omega)]
  simp only[WH];omega
 .intro s a
  have c:g.rules[r.toNat]?=some (bT g r):=by unfold bT;exact getD_some (by omega)
  exact b.sym _ (WI c) s a
theorem Ih (a:g.cP) {x:aK} (b:c7 g x):∀ s∈fh g x,dZ g s=true:=λs c=>PB a b.1 s (List.mem_of_mem_drop c)
theorem mG.met {l:List bB} (h:mG g l) {x:bB} (b:∀ s∈x.ah ++ x.be,dZ g s=true):mG g (kG l x):=by
 unfold kG
 split
 .exact h
 .intro y a
  rcases WN.1 a with a | a
  .exact h y a
  .simp at a;subst a;exact b
theorem mG.Uw {x:bB} (a:∀ s∈x.ah ++ (jG g x.it ++ x.be),dZ g s=true) (s:Int):∀ (k:Nat) (l:List bB),mG g l->mG g (nU g x s k l)
 | 0,_,h=>h
 | k+1,l,h=>by
  rw[nU]
  split
  .exact(mG.Uw a s k l h).met a
  .exact mG.Uw a s k l h
theorem mG.leave (f:dU g a) {l:List bB} (j:jx g a l) (h:mG g l) {x:bB} (i:x∈l):mG g (ja g a l x):=by
 unfold ja
 split
 .rename_i k
  have m:bJ g x.it=((bJ g x.it).1,true):=by rw[<-k]
  have e:=j.nd x i
  have hH:=f.has e.lt e.it
  obtain⟨f1,_⟩:=pZ hH m
  have d:=Ih f.iS hH
  rw[f1] at d
  have c:=h x i
  refine mG.Uw (λs b=>?_) _ _ _ (h.met λs b=>?_)
  .simp only[WN] at b c
   rcases b with b | b | b
   .exact c s (.inl b)
   .exact d s (W9 _ b)
   .exact c s (.inr b)
  .simp only[WN,XB] at b c
   rcases b with (b | rfl) | b
   .exact c s (.inl b)
   .exact d _ (XE ..)
   .exact c s (.inr b)
 .exact h
theorem CK (b:dU g a):∀ (f i:Nat) (l:List bB),jx g a l->mG g l->mG g (jJ g a f i l)
 | 0,_,_,_,h=>h
 | f+1,i,l,c,h=>by
  rw[jJ]
  cases e:l[i]? with
  | none=>exact h
  | some x=>exact CK b f (i+1) _ (AR b c e).1 (h.leave b c (WI e))
theorem PT (b:dU g a):mG g (cq g a):=CK b _ _ _ (Be b) λx c s d=>by
 simp[me] at c
 subst c
 simp at d
theorem sG (a:g.cP) {s:Int} (h:dZ g s=true):ba s:=by
 have:=a.an;have:=a.ax
 unfold dZ at h
 unfold ba
 split at h <;> simp only[WH] at h <;> omega
theorem Fm (c:dU g a) (d:a.length<=300) {i:Nat} (hi:i < a.length):c7 g (en (cq g a) i).it/\(en (cq g a) i).ah.length<=86100/\(en (cq g a) i).be.length<=516600/\(fh g (en (cq g a) i).it).length<=6 /\
  (∀ s∈(en (cq g a) i).ah,ba s)/\(∀ s∈(en (cq g a) i).ah ++ (fh g (en (cq g a) i).it ++ (en (cq g a) i).be),ba s):=by
 obtain⟨f1,f2,f3⟩:=GJ c d hi
 obtain⟨h,_,_⟩:=Bb c d
 have hH:=c.has f3.lt f3.it
 obtain⟨j,k⟩:=List.getElem?_of_mem f1
 have m:=h.len j _ k
 have b:=h.short c d
 have l:=(Wy.1 k).1
 have e:=PT c _ f1
 have f:=Ih c.iS hH
 refine⟨hH,by omega,by omega,?_,λs b=>sG c.iS (e s (WN.2 (.inl b))),λs b=>?_⟩
 .have:=fg c.iS hH.1
  unfold fh
  simp;omega
 .rcases WN.1 b with b | b
  .exact sG c.iS (e s (WN.2 (.inl b)))
  .rcases WN.1 b with b | b
   .exact sG c.iS (f s b)
   .exact sG c.iS (e s (WN.2 (.inr b)))
end
def tf:SC :=
 ai [ai [af [aa 21 6,aa 22 5,eW 23 22,ay 24 6 23,au 25 24,aQ 26 25,aZ 27 .lss 21 26],cp 27 (.exit 0)],.block 1 (af [aa 30 5,aa 31 5,eW 32 31,ay 33 6 32,au 34 33,aa 35 6,aY 36 5 34 35,bj 37 5 36,aT 38 126 [30,37]]),af [aa 28 6,aF 29 .add 28 1,aa 6 29]]
def xq:SF:=⟨ai [af [cJ 2 0,((some 4),.op (.dX (.val (.val (.pointer none)))))],.region true [⟨none,[bj 7 4 2,aa 8 1,((some 9),.op (.oo)),((some 10),.op (.bS 1 1 [(.val (.int .i64 0))] [(0,(.val (.val (.int .i64 (-1)))))])),aa 11 1,aQ 12 11,aT 13 115 [10,12],((some 14),.op (.build [(.emp 1),(.emp 1),(.emp 1),(.val (.int .i64 0)),(.emp 1),(.val (.map none)),(.emp 1),(.emp 1)] [(0,4,(.tmp 7)),(4,1,(.tmp 8)),(5,1,(.tmp 9)),(7,1,(.tmp 13))])),((some 15),.op (.box (.tmp 14))),aa 5 15]⟩],af [aa 16 5,((some 17),.op (.build [(.val (.int .i64 0)),(.val (.int .i64 0))] [(0,1,(.val (.val (.int .i64 (-1)))))])),((some 18),.op (.build [(.val (.int .i64 0)),(.val (.int .i64 0)),(.val (.int .i64 0))] [(0,1,(.val (.val (.int .i64 0)))),(1,2,(.tmp 17))])),((some 19),.op (.build [(.val (.int .i64 0)),(.val (.int .i64 0)),(.val (.int .i64 0)),(.emp 1),(.emp 1)] [(0,3,(.tmp 18))])),aT 20 125 [16,19]],ai [af [bb 6 0],cz 0 tf],af [aa 39 5,aa 4 39],.ret],
 [.tmp 4],40⟩
theorem A0:aG Tryz.prog 61 [2]=some xq:=by kernel_rfl
theorem Jg (a:List aR):eF a []=List.replicate a.length (-1):=by
 unfold eF
 apply List.ext_getElem?
 intro i
 rw[Ww,Xu]
 by_cases h:i < a.length
 .rw[XU h,Wv h];rfl
 .rw[Xa (by simpa using h),Ws h];rfl
theorem Jo {g:ag} {a:List aR} {f i:Nat} {l:List bB} (h:l.length<=i):jJ g a f i l=l:=by
 cases f with
 | zero=>rfl
 | succ f=>rw[jJ,Xa h]
theorem TO (g:ag) (X:g.Ok) (a:List aR) (x:dU g a) (F:a.length<=300) (H:View) :
  ao Tryz.prog 61 [.agg (ak g),fH a] H λr H'=>∃ b,r=.ptr b 0 0/\eT H' b g a (cq g a) 100000000 []:=by
 have z:=x.pos
 have G:cT (fH a)=some a.length:=by simp[fH,cT]
 have d:aE (fH a)=true/\V.cells (fH a)=[fH a]:=⟨rfl,rfl⟩
 refine ao.of mixed A0 ?_
 simp(disch:=omega)only[↓wr,seval,wq,xq,ak,encS,G,d.1,d.2]
 intro o Y O A
 obtain⟨I,A⟩:=dg A (by simp)
 refine aq.D5 (Mx a.length (by omega) O _ (by simp[View.set])) ?_
 intro r P hr p
 have s:P o=.map [] 0:=by
  have e:¬ o=O:=λe=>I e.symm
  rw[(p o (by simp[View.set,e])).1]
  simp[View.set,e]
 simp(disch:=omega)only[↓wr,seval,wq,hr.cells,hr.fF,d.1,d.2]
 intro j f
 have J:¬ o=j:=by rintro rfl;rw[s] at f;simp at f
 have Q:=(((bu.nil.MQ hr p).new f 8 [pU g a o (.emp 1) r]).emp (k:=1) (sz:=5)).perm (.cons _ (.swap _ _ _))
 have R:eT (P.set j (.arr 8 [pU g a o (.emp 1) r])) j g a [] 0 []:=by
  refine⟨o,.emp 1,r,[],[],0,?_,by simp[View.set,J,s,bZ],⟨by simp,by simp⟩,λk=>⟨0,rfl,Wz _,by simp⟩,rfl,by simp⟩
  rw[Jg]
  exact Q
 try simp(disch:=omega)only[↓wr,seval,wq]
 have hm:=Dv g a j [] 0 (by omega) (by simp) ⟨⟨0,⟨-1,0⟩,[],[]⟩,.emp 1,.emp 1⟩ ⟨.inr ⟨rfl,rfl⟩,.inr ⟨rfl,rfl⟩⟩ z [] _ R
 refine aq.bX (hm.mono ?_)
 rintro _ H4 U
 simp(disch:=omega)only[↓wr,seval,wq]
 refine bk.up 86101 (λi T H'=>∃ (l:List bB),i<=l.length/\jx g a l/\jJ g a (90000 - i) i l=cq g a/\eT H' j g a l (1+41 * i) []/\T 5=.ptr j 0 0/\T 6=gi i) ⟨me,by simp,Be x,rfl,U,rfl,rfl⟩ ?_
 clear U R Q hm s f hr p
 rintro i k T Z hk ⟨l,ab,h,u,K,t5,t6⟩
 obtain⟨q,us,uf,S,m,c,w⟩:=id K
 have W:=w.own.is 2 rfl (by simp)
 have L:S.length=l.length:=by rw[<-w.is,WG]
 have M:cT us=some l.length:=by rw[(w.own.own 0 rfl).len,WG,L]
 simp(disch:=omega)only[↓wr,seval,wq,tf,t5,t6,W,M]
 apply aj.dec<;>intro hc
 .have N:S[i]?=some (S[i]'(by omega)):=Wp (by omega)
  have B:=WA (show i < S.length by omega)
  generalize S[i]'(by omega)=y at N B
  have v:l[i]?=some y.n:=by rw[<-w.is,Ww,N];rfl
  obtain⟨n,C,hH⟩:=(w.own.own 0 rfl).sl (by simp;omega)
  rw[WG] at C
  have D:(S.map iY).getD i []=iY y:=by simp[Wo,N]
  have hs:=h.short x F
  have E:=QK g X a x F j l h y (w.ok y B) i v (1+41 * i) (by omega) [] Z K
  simp only[iY] at E D
  simp(disch:=omega)only[↓wr,seval,wq,t5,t6,W,C,hH,D]
  refine⟨by omega,by first | omega | (simp;omega),?_⟩
  refine aq.bX (E.mono ?_)
  rintro _ H6 w6
  simp(disch:=omega)only[↓wr,seval,wq,t5,t6]
  obtain⟨l1,⟨t,ht⟩,_⟩:=AR x h v
  refine aJ hk (by omega) ⟨ja g a l y.n,by rw[ht,WO];omega,l1,?_,w6.up (B':=1+41 * (i+1)) (by omega),t5,rfl⟩
  rw[<-u,show 90000 - i=90000 - (i+1)+1 by omega,jJ,v]
 .simp(disch:=omega)only[↓wr,seval,wq,t5]
  rw[Jo (by omega)] at u
  subst u
  have hs:=h.short x F
  exact⟨j,rfl,K.up (B':=100000000) (by omega)⟩
def kP (b:im):List V:=[gi b.state,gi b.len,encI b.word]
def LY (x:List im × Int):V:=.aO [.aL (x.1.map kP),gi x.2]
def cE (g:ag) (a:List aR):Nat->List im × Int
 | 0=>([],0)
 | i+1=>if (cE g a i).2≠0 then cE g a i else if (dK g ((fK g a i).1 ++ (fK g a i).2)).2≠0 then ([],(dK g ((fK g a i).1 ++ (fK g a i).2)).2) else ((cE g a i).1 ++ [zy g a i],0)
noncomputable def dF (g:ag):List im × Int:=if (cn g).2≠0 then ([],(cn g).2) else cE g (cn g).1 (cn g).1.length
theorem F8 (b:im):∀ v∈kP b,Tree v:=by
 intro v a
 simp[kP] at a
 rcases a with rfl | rfl | rfl
 .exact .val _
 .exact .val _
 .exact aX _
theorem zV {g:ag} {a:List aR} {i:Nat} (h:(cE g a i).2≠0):∀ d,cE g a (i+d)=cE g a i
 | 0=>rfl
 | d+1=>by
  have b:=zV h d
  rw[<-W7,cE,b,Wv h]
theorem Lt {g:ag} {a:List aR} {i n:Nat} (h:(cE g a i).2≠0) (hi:i<=n):cE g a n=cE g a i:=by
 have:=zV h (n - i)
 rwa [show i+(n - i)=n by omega] at this
theorem vI {g:ag} {a:List aR} : ∀ i,(cE g a i).1.length<=i
 | 0=>by simp[cE]
 | i+1=>by
  have b:=vI (g:=g) (a:=a) i
  rw[cE]
  split
  .omega
  .split
   .simp
   .simp;omega
def oX:SF:=⟨ai [af [b7 4 1,b7 5 1],af [aa 7 0,eW 8 7,ay 9 6 8,au 10 9,aa 11 0,eW 12 11,ay 13 7 12,au 14 13,aa 15 1,aY 16 1 14 15,au 17 16,aY 18 5 10 17,bj 19 5 18,((some 6),.op (.alloc [(.val (.int .i64 0)),(.val (.int .i64 0)),(.val (.int .i64 0)),(.emp 1),(.emp 1)])),df 5 6 19],.region true [⟨none,[ay 20 3 6,au 21 20,aa 22 0,ay 23 0 6,ay 24 1 23,bj 25 2 24,aT 26 127 [22,25],ay 27 4 6,au 28 27,((some 29),.op (.bS 2 1 [(.emp 1)] [(0,(.tmp 26)),(1,(.tmp 28))])),aT 30 68 [29],aa 4 21,aa 5 30]⟩],.ret],
 [.tmp 4,.tmp 5],31⟩
theorem ua:aG Tryz.prog 62 []=some oX:=by kernel_rfl
def rZ:SC :=
 ai [af [aZ 28 .lss 27 26],cp 28 (.exit 0),.block 1 (ai [af [aa 29 27,aa 8 29],af [aa 31 6,aa 32 8,aT 33 62 [31,32],aa 30 33,dO 34 0 30,dO 35 1 30,aa 9 34,aa 10 35],.region true [⟨none,[bj 37 4 1,aa 38 9,aa 39 10,((some 40),.op (.bS 2 1 [(.emp 1)] [(0,(.tmp 38)),(1,(.tmp 39))])),aT 41 68 [40],aT 42 67 [37,41],aa 36 42,dO 43 0 36,dO 44 1 36,aa 11 43,aa 12 44]⟩],ai [af [aa 45 12,aF 46 .neq 45 0],bf 46 (ai [af [aa 47 12,b7 2 1,aa 3 47],.ret])],af [bj 49 4 1,aa 50 9,aT 51 67 [49,50],aa 48 51,dO 52 0 48,dO 53 1 48,aa 13 52,aa 12 53],ai [af [aa 54 12,aF 55 .neq 54 0],bf 55 (ai [af [aa 56 12,b7 2 1,aa 3 56],.ret])],af [aa 57 7,aa 58 8,aa 59 13,aQ 60 59,aa 61 11,((some 62),.op (.build [(.val (.int .i64 0)),(.val (.int .i64 0)),(.emp 1)] [(0,1,(.tmp 58)),(1,1,(.tmp 60)),(2,1,(.tmp 61))])),((some 63),.op (.bS 1 3 [(.val (.int .i64 0)),(.val (.int .i64 0)),(.emp 1)] [(0,(.tmp 62))])),iR 64 3 40 57 63,aa 7 64]]),af [aF 65 .add 27 1,aa 27 65]]
def ve:SF:=⟨ai [af [cJ 1 0,b7 2 1,bb 3 0],af [bj 15 4 1,aT 16 60 [15],aa 14 16,dO 17 0 14,dO 18 1 14,aa 4 17,aa 5 18],ai [af [aa 19 5,aF 20 .neq 19 0],bf 20 (ai [af [aa 21 5,b7 2 1,aa 3 21],.ret])],af [bj 22 4 1,aa 23 4,aT 24 61 [22,23],aa 6 24],af [b7 7 1],ai [af [aa 25 4,aQ 26 25,bb 27 0],cz 0 rZ],af [aa 66 7,aa 2 66,bb 3 0],.ret],
 [.tmp 2,.tmp 3],67⟩
theorem zJ:aG Tryz.prog 28 [1]=some ve:=by kernel_rfl
theorem TY (g:ag) (hg:g.Ok) (a:List aR) (N:dU g a) (h3:a.length<=300) (b:Nat) (B:Nat) (K:List ed) (i:Nat) (hi:i < a.length) (H:View) (hW:eT H b g a (cq g a) B K) :
  ao Tryz.prog 62 [.ptr b 0 0,gi i] H λr H'=>(∃ v,A6 v (fK g a i).1/\r=.aO [v,encI (fK g a i).2])/\∀ id,H id≠.dead->H' id=H id:=by
 have hf:=N.iS
 have ae:=rm hf
 obtain⟨f1,f2,f3⟩:=GJ N h3 hi
 obtain⟨p1,p2,p3,p4,_,_⟩:=Fm N h3 hi
 obtain⟨k,k1,k2,k3⟩:=Al i (cq g a) 0 ⟨_,f1,f2⟩
 rw[Xk] at k1
 have O:fK g a i=((en (cq g a) i).ah,fh g (en (cq g a) i).it ++ (en (cq g a) i).be):=rfl
 rw[O]
 obtain⟨q,us,uf,S,m,c,w⟩:=hW
 have al:S.length=(cq g a).length:=by rw[<-w.is,WG]
 have P:=w.own.is 2 rfl (by simp)
 have Q:S[k]?=some (S[k]'(by omega)):=Wp (by omega)
 have A:=WA (show k < S.length by omega)
 generalize S[k]'(by omega)=y at Q A
 have R:y.n=en (cq g a) i:=by
  have:(S.map r7.n)[k]?=some y.n:=by rw[Ww,Q];rfl
  rw[w.is,k3] at this
  simpa using this.symm
 have j:=w.ok y A
 rw[<-R] at p1 p2 p3 p4 ⊢
 obtain⟨n,C,hH⟩:=(w.own.own 0 rfl).sl (by simp;omega)
 rw[WG] at C
 have D:(S.map iY).getD k []=iY y:=by simp[Wo,Q]
 have p:(eF a (cq g a)).length=a.length:=by simp[eF]
 obtain⟨nf,E,hF⟩:=(w.own.own 1 rfl).sl (by simp[p];omega)
 rw[WG,p] at E
 have T:(aM (eF a (cq g a))).getD i []=[gi k]:=by
  rw[aM,Wo,Ww,eF,Ww,XU hi]
  simp[k1]
 obtain⟨⟨U,W,ar⟩,⟨F,G,a1⟩⟩:=And.intro j.a.fF j.b.fF
 have X:=qX (fh g y.n.it) y.n.be (by omega)
 simp only[iY] at D
 refine ao.of mixed ua ?_
 simp(disch:=omega)only[↓wr,seval,wq,oX,P,C,E,hF,T,hH,D,U,W,F,G]
 refine⟨hi,by rw[p];exact hi,by omega,by omega,λl s=>?_⟩
 rw[set_set]
 have Y:¬ b=l:=by rintro rfl;rw[P] at s;simp at s
 have I:(H.set l (.arr 5 [[gi y.n.st,gi y.n.it.av,gi y.n.it.dot,y.a,y.b]])) b=.arr 8 [pU g a q us uf]:=by simp only[View.set,Ws Y,P]
 have t:(H.set l (.arr 5 [[gi y.n.st,gi y.n.it.av,gi y.n.it.dot,y.a,y.b]])) l=.arr 5 [[gi y.n.st,gi y.n.it.av,gi y.n.it.dot,y.a,y.b]]:=by simp only[View.set,if_true]
 have f:∀ id,H id≠.dead->(H.set l (.arr 5 [[gi y.n.st,gi y.n.it.av,gi y.n.it.dot,y.a,y.b]])) id=H id:=λid e=>by
  have:¬ id=l:=by rintro rfl;exact e s
  simp only[View.set,Ws this]
 generalize View.set H l (.arr 5 [[gi y.n.st,gi y.n.it.av,gi y.n.it.dot,y.a,y.b]])=H1 at I t f ⊢
 have hr:=KB g (by unfold ba;omega) a q us uf b H1 I y.n.it p1
 simp only[fi] at hr
 refine aq.still hr (λr H' h id e=>(h.2 id e).1) ?_
 rintro u M ⟨hu,J⟩
 have L:aE u=true/\V.cells u=[u]:=by
  rcases hu with rfl | ⟨n,x,d,rfl,_⟩ <;> exact⟨rfl,rfl⟩
 have Z:M l=.arr 5 [[gi y.n.st,gi y.n.it.av,gi y.n.it.dot,y.a,y.b]]:=by rw[(J l (by rw[t];simp)).1];exact t
 simp(disch:=omega)only[↓wr,seval,wq,Z,L.1,L.2,F,G]
 intro n9 z
 have ab:∀ {o:bN} (id:Nat),M id≠.dead->(M.set n9 o) id=M id:=λ{o} id e=>by
  have:¬ id=n9:=by rintro rfl;exact e z
  simp only[View.set,Ws this]
 refine aq.iM X (by kernel_rfl) ⟨cg.two (by simp only[View.set,if_true]) ((hu.keep λid e=>ab id e).mK) j.b.mK,trivial⟩ ?_
 simp(disch:=omega)only[↓wr,seval,wq]
 refine⟨⟨y.a,j.a,rfl⟩,λid e=>?_⟩
 have h1:=f id e
 have h2:=(J id (by rw[h1];exact e)).1
 have e9:¬ id=n9:=by rintro rfl;rw[h2,h1] at z;exact e z
 rw[Ws e9,h2,h1]
theorem eT.app {H:View} {b:Nat} {g:ag} {a:List aR} {l:List bB} {B:Nat} {u:V} {sz:Nat} {es:List (List V)} (h:eT H b g a l B [(u,sz,es)]):aH H u sz es/\∀ u' H' es',aH H' u' sz es'->Left H H' u u'->eT H' b g a l B [(u',sz,es')]:=by
 obtain⟨q,us,e,S,m,c,w⟩:=h
 refine⟨w.own.own 3 rfl,λu' H' es' f d=>⟨q,us,e,S,m,c,?_,d.map (w.own.own 3 rfl) w.map,w.born,w.seen,w.is,w.ok⟩⟩
 exact((w.own.perm B8).left f d).perm B8.symm
theorem O0 (g:ag) (m:g.Ok) (d:g.Small):az Tryz.prog 28 [.agg (ak g)] (LY (dF g)):=by
 refine az.of (eR g) ?_
 have O:=(PV g m d).pure
 have z:cT (fH (cn g).1)=some (cn g).1.length:=by simp[fH,cT]
 refine ao.of mixed zJ ?_
 simp only[ak,encS] at O
 simp(disch:=omega)only[↓wr,seval,wq,ve,ak,encS]
 refine aq.pure O ?_
 simp(disch:=omega)only[↓wr,seval,wq]
 unfold dF
 apply aj.ne<;>intro h
 .rw[Wv h]
  simp(disch:=omega)only[↓wr,seval,wq]
  intro A _
  exact(uZ (.emp 1)).QP
 rw[Ws (by omega)]
 obtain⟨_,B,c⟩:=J3 h
 generalize (cn g).1=a at *
 have p:=TO g m a B c (λ_=>.dead)
 simp only[ak,encS] at p
 simp(disch:=omega)only[↓wr,seval,wq,ak,encS]
 refine aq.bX (p.mono ?_)
 rintro _ H1 ⟨b,rfl,w⟩
 simp(disch:=omega)only[↓wr,seval,wq,z]
 refine bk.up a.length (λi T H'=>∃ (u:V),(cE g a i).2=0/\eT H' b g a (cq g a) 100000000 [(u,3,(cE g a i).1.map kP)]/\T 1=.aN (ak g) 0/\T 6=.ptr b 0 0/\T 7=u/\T 26=gi a.length/\T 27=gi i) ⟨.emp 1,rfl,w.add .nil .emp,rfl,rfl,rfl,rfl,rfl⟩ ?_
 clear w
 rintro i k T H hk ⟨u,he,w,t1,t6,t7,t26,t27⟩
 simp(disch:=omega)only[↓wr,seval,wq,rZ,t1,t6,t7,t26,t27]
 apply aj.dec<;>intro R
 .have hi:i < a.length:=by omega
  obtain⟨p1,S,p3,p4,U,W⟩:=Fm B c hi
  have C:fK g a i=((en (cq g a) i).ah,fh g (en (cq g a) i).it ++ (en (cq g a) i).be):=rfl
  have P:(fK g a i).1.length<=86100/\(fK g a i).2.length<=600000/\(∀ s∈(fK g a i).1,ba s)/\(∀ s∈(fK g a i).1 ++ (fK g a i).2,ba s):=by
   rw[C]
   exact⟨S,by simp only[WO];omega,U,W⟩
  obtain⟨P,q2,X,Y⟩:=P
  have hw:=TY g m a B c b _ _ i hi H w
  have l:cE g a (i+1)=if (dK g ((fK g a i).1 ++ (fK g a i).2)).2≠0 then ([],(dK g ((fK g a i).1 ++ (fK g a i).2)).2) else ((cE g a i).1 ++ [zy g a i],0):=by
   rw[cE,Ws (by rw[he];simp)]
  have D:zy g a i=⟨i,((dK g (fK g a i).1).1.length:Int),(dK g ((fK g a i).1 ++ (fK g a i).2)).1⟩:=rfl
  have E:=λh=>(Hn (g:=g) (u:=(fK g a i).1) (v:=(fK g a i).2) h).1
  generalize (fK g a i).1=x at *
  generalize (fK g a i).2=y at *
  have F:=qX x y (by omega)
  have q:=(GN g m d (x ++ y) (by simp;omega) Y).pure
  have r:=GN g m d x (by omega) X
  simp only[ak,encS,LP] at q r
  have Z:=vI (g:=g) (a:=a) i
  generalize dK g (x ++ y)=G at *
  generalize dK g x=Q at *
  simp(disch:=omega)only[↓wr,seval,wq,t1,t6,t7,t26,t27]
  refine aq.bX (hw.mono ?_)
  rintro _ H2 ⟨⟨v,f,rfl⟩,I⟩
  have w2:=w.stay I
  obtain⟨J,K,_⟩:=f.fF
  simp(disch:=omega)only[↓wr,seval,wq,t1,t6,t7,t26,t27,ak,encS,J,K]
  intro n9 L
  have w3:=w2.fresh (o:=.arr 1 [[v],[encI y]]) L
  try simp(disch:=omega)only[↓wr,seval,wq,t1,t6,t7,t26,t27]
  refine aq.iM F (by kernel_rfl) ⟨cg.two (by simp only[View.set,if_true];rfl) f.mK (.tree (aX y)),trivial⟩ ?_
  simp(disch:=omega)only[↓wr,seval,wq,t1,t6,t7,t26,t27,ak,encS]
  refine aq.pure q ?_
  simp(disch:=omega)only[↓wr,seval,wq,t1,t6,t7,t26,t27,ak,encS]
  apply aj.ne<;>intro h1
  .rw[Wv h1] at l
   simp(disch:=omega)only[↓wr,seval,wq]
   intro A _
   rw[Lt (i:=i+1) (by rw[l];exact h1) (by omega),l]
   exact(uZ (.emp 1)).QP
  rw[Ws (by omega)] at l
  have h2:Q.2=0:=E (by omega)
  simp(disch:=omega)only[↓wr,seval,wq,t1,t6,t7,t26,t27,ak,encS]
  refine aq.iM r (by kernel_rfl) ⟨.tree (cX _ (cQ g)),f.mK,trivial⟩ ?_
  simp(disch:=omega)only[↓wr,seval,wq,t1,t6,t7,t26,t27]
  refine aj.ne (λh=>absurd h2 h) (λ_=>?_)
  simp(disch:=omega)only[↓wr,seval,wq,t1,t6,t7,t26,t27,encI]
  intro n10 t
  have w4:=w3.fresh (n:=n10) (o:=.arr 3 [[gi i,gi Q.1.length,encI G.1]]) t
  obtain⟨M,wk⟩:=w4.app
  simp(disch:=omega)only[↓wr,seval,wq,bY]
  refine iv (es:=(cE g a i).1.map kP) M (by simp[aE]) (by unfold aD;simp;omega) (by unfold aD;simp;omega) ?_
  intro u5 H5 o5 l5
  have w5:=wk _ _ _ o5 l5
  simp(disch:=omega)only[↓wr,seval,wq,t1,t6,t26,t27]
  refine aJ hk hi ⟨u5,by rw[l],?_,t1,t6,rfl,t26,rfl⟩
  rw[l,D,W6]
  exact w5
 .obtain rfl:i=a.length:=by omega
  simp(disch:=omega)only[↓wr,seval,wq,t7]
  intro A f
  obtain⟨M,_⟩:=w.app
  have N:=cg.own M (λe he v f=>by
   obtain⟨x,_,rfl⟩:=WQ.1 he
   exact F8 x v f) A f
  unfold LY
  rw[he]
  exact .aO _ _ rfl λj hj=>by
   match j,hj with
   | 0,_=>exact N
   | 1,_=>exact .tree _ (.val _)
abbrev LB:Nat:=4294967296
def Of:Nat->Nat->List Nat
 | 0,_=>[]
 | f+1,n=>if n=0 then [] else n % LB :: Of f (n / LB)
def Wm (n:Nat):List Nat:=Of 70 n
abbrev gl (n:Nat):V:=.val (.int .u64 (n:Int))
theorem B5 {h:Heap} {u v:V} {e:Int} (hu:Fr h u v):Fr h (.aO [u,gi e]) (.aO [v,gi e]):=.aO _ _ rfl λi hi=>by
 match i,hi with
 | 0,_=>exact hu
 | 1,_=>exact .tree _ (.val _)
def xX (c:Int × List Int):List V:=[gi 2,gi c.1,encI c.2]
def CT (x:List (Int × List Int) × Int):V:=.aO [.aL (x.1.map xX),gi x.2]
noncomputable def ic (g:ag) (m:Int) (b:im):List (Int × List Int):=(nB g b m).map λw=>(b.state,w)
noncomputable def pO (g:ag) (m:Int):List (Int × List Int) × Int :=
 if isRed g=true/\0<=m/\m<=60 then (if (dF g).2≠0 then ([],(dF g).2) else if 2000 < ((dF g).1.flatMap (ic g m)).length then ([],13) else ((dF g).1.flatMap (ic g m),0)) else ([],1)
theorem PI (c:Int × List Int):∀ v∈xX c,Tree v:=by
 intro v a
 simp[xX] at a
 rcases a with rfl | rfl | rfl
 .exact .val _
 .exact .val _
 .exact aX _
theorem Im (g:ag) (b:im) (m:Int):∀ n,(qD g b m n).length<=n
 | 0=>by simp[qD]
 | n+1=>by
  have:=Im g b m n
  rw[yF,WO]
  split <;> simp <;> omega
abbrev St (s:Int) (l:List (List Int)):List (Int × List Int):=l.map λw=>(s,w)
theorem VF (C:List (Int × List Int)) (s:Int) (l:List (List Int)) (w:List Int):(C ++ St s (l ++ [w])).map xX=(C ++ St s l).map xX ++ [[gi 2,gi s,encI w]]:=by simp[xX]
theorem Og (l:List Int) (b:l.length<=100000):cd Tryz.prog 37 [encI l] (encI l) :=
 cd.of (by intro v a;simp at a;subst a;exact aX _) ((NC l b _).mono λr H' h d c=>du.DJ (sz:=1) (f:=λx:Int=>.int .i64 x) (by rw[c];exact h.1))
def Rc (g:ag) (s:Int) (n:Nat) (o:List aK):List aK:=(List.range n).foldl (λo (k:Nat)=>if (bT g k).left = -1 - s then mz o ⟨k,0⟩ else o) o
def GA (g:ag) (p:List aK) (x:aK):List aK:=if (bJ g x).2=true/\(bJ g x).1 < 0 then Rc g (bJ g x).1 g.rules.length p else p
def Cv (g:ag) (l:List aK):List aK:=iter (λo=>o.foldl (GA g) o) g.rules.length l
def UK (g:ag) (l o:List aK):Bool:=l.all (λx=>decide (x∈o)) && o.all λx=>!(bJ g x).2 || decide (0<=(bJ g x).1) || (List.range g.rules.length).all λ(k:Nat)=>!decide ((bT g k).left = -1 - (bJ g x).1) || decide ((⟨k,0⟩:aK)∈o)
def GM (g:ag) (l o:List aK):Prop:=cR o/\∀ x∈o,qB g l x
theorem KM {g:ag} {k:Nat} (h:k < g.rules.length):g.rules[k]?=some (bT g k):=by unfold bT;rw[W8];exact getD_some h
theorem KW {g:ag} {l:List aK} {x:aK} {s:Int} (c:qB g l x) (d:bJ g x=(s,true)) (e:s < 0):∀ (n:Nat) (o:List aK),n<=g.rules.length->GM g l o->GM g l (Rc g s n o)
 | 0,_,_,h=>h
 | n+1,o,f,h=>by
  have a:=KW c d e n o (by omega) h
  unfold Rc at a ⊢
  rw[X4,X2]
  simp only[Xz,List.foldl_nil]
  split
  .rename_i i
   refine⟨wj a.1,λy b=>?_⟩
   rcases sR.1 b with rfl | b
   .exact .step c d e (KM (by omega)) i
   .exact a.2 y b
  .exact a
theorem z8 {g:ag} {l:List aK} : ∀ (q o:List aK),(∀ x∈q,qB g l x)->GM g l o->GM g l (q.foldl (GA g) o)
 | [],_,_,h=>h
 | x :: q,o,a,h=>by
  rw[Xz]
  refine z8 q _ (λy c=>a y (by simp[c])) ?_
  unfold GA
  split
  .rename_i b
   exact KW (a x (by simp)) (Prod.ext rfl b.1) b.2 _ _ (Wz _) h
  .exact h
theorem BG {α:Type} {p:α->Prop} {f:α->α} (h:∀ x,p x->p (f x)):∀ (n:Nat) (x:α),p x->p (iter f n x)
 | 0,_,a=>a
 | n+1,x,a=>BG h n (f x) (h x a)
theorem QS {g:ag} (i:g.cP) {l:List aK} (j:cR l) (m:∀ x∈l,c7 g x) (h:UK g l (Cv g l)=true):c9 g l=Cv g l:=by
 have d:GM g l (Cv g l):=BG (λo e=>z8 o o e.2 e) _ l ⟨j,λx b=>.base b⟩
 simp only[UK,WC,WU,WH] at h
 refine Gn i m d.1 d.2 h.1 λx b s k R n f hk p=>?_
 have h1:=h.2 x b
 obtain⟨a,q⟩:=Wy.1 hk
 rw[KM a] at hk
 simp only[Wu] at hk
 simp only[n,Yw,YA,Yc,WH,WU,XA,Yt,XC] at h1
 rcases h1 with h1 | h1
 .omega
 .rcases h1 k a with c | c
  .exact absurd (by rw[hk];exact p) c
  .exact c
def FY (g:ag) (at_:Nat) (out:List aR):List aR:=(List.range (g.an.length+g.ax.length)).foldl (dL g (Cv g (out.getD at_ bG).bt) at_) out
def FP (g:ag):Nat->Nat->List aR->Option (List aR)
 | 0,_,_=>none
 | f+1,at_,out=>if at_ < out.length then
   (if UK g (out.getD at_ bG).bt (Cv g (out.getD at_ bG).bt)=true/\(FY g at_ out).length<=300 then FP g f (at_+1) (FY g at_ out) else none)
  else some out
theorem HE {g:ag} (b:g.cP):∀ (f at_:Nat) (out a:List aR),dN g at_ 0 out->FP g f at_ out=some a->∀ k:Nat,f<=k->fZ g k at_ out=(a,0)
 | 0,_,_,_,_,h,_,_=>by simp[FP] at h
 | f+1,at_,out,a,l,h,k,hk=>by
  obtain⟨j,rfl⟩:∃ j,k=j+1:=⟨k - 1,by omega⟩
  rw[FP] at h
  rw[fZ]
  split at h
  .rename_i c
   rw[Wv c]
   split at h
   .rename_i m
    have hm:=WI (getD_some (d:=bG) c)
    have i:=l.bt _ hm
    have e:vZ g at_ out (g.an.length+g.ax.length)=FY g at_ out:=by
     unfold vZ FY
     rw[QS b i.1 i.2.2 m.1]
    have hr:=dN.row (l.nQ b c).1 (l.nQ b c).2 l (g.an.length+g.ax.length) (by have:=b.an;have:=b.ax;omega)
    rw[show (List.range (g.an.length+g.ax.length)).foldl (dL g (c9 g (out.getD at_ bG).bt) at_) out=vZ g at_ out (g.an.length+g.ax.length) from rfl] at hr
    rw[e] at hr ⊢
    rw[Ws (by omega)]
    exact HE b f (at_+1) _ a hr.1.next h j (by omega)
   .simp at h
  .rename_i c
   rw[Ws c]
   simp only[Wu] at h
   rw[h]
theorem xL (g:ag):(dF g).1.length<=300/\∀ x∈(dF g).1,x.word.length<=60:=by
 have key:∀ a i,∀ x∈(cE g a i).1,x.word.length<=60:=by
  intro a i
  induction i with
  | zero=>simp[cE]
  | succ i c =>
   rw[cE]
   split
   .exact c
   .split
    .simp
    .intro x b
     rcases WN.1 b with b | b
     .exact c x b
     .simp at b
      subst b
      exact(As (g:=g) _).2
 unfold dF
 split
 .simp
 .rename_i h
  obtain⟨_,e,d⟩:=J3 (Yu.1 h)
  have:=vI (g:=g) (a:=(cn g).1) (cn g).1.length
  exact⟨by omega,key _ _⟩
theorem GD {g:ag} {a:List aR} : ∀ n,(cE g a n).2=0->(cE g a n).1.length=n/\∀ i:Nat,i < n->(cE g a n).1[i]?=some (zy g a i)/\(dK g ((fK g a i).1 ++ (fK g a i).2)).2=0
 | 0,_=>⟨rfl,λi h=>by omega⟩
 | n+1,h=>by
  rw[cE] at h ⊢
  split at h
  .rename_i h1;exact absurd h h1
  .rename_i h1
   have h1:(cE g a n).2=0:=Yu.1 h1
   obtain⟨i1,i2⟩:=GD n h1
   split at h
   .rename_i b;exact absurd h b
   .rename_i b
    rw[Ws (by simp[h1]),Ws b]
    refine⟨by simp[i1],λi hi=>?_⟩
    simp only
    by_cases e:i < n
    .rw[WS (by omega)]
     exact i2 i e
    .obtain rfl:i=n:=by omega
     rw[Xi (by omega),i1,Nat.sub_self]
     exact⟨rfl,Yu.1 b⟩
theorem Cd {g:ag} {a:List aR} : ∀ n,(cE g a n).2≠0->(cE g a n).1=[]
 | 0,h=>absurd rfl h
 | n+1,h=>by
  rw[cE] at h ⊢
  split
  .rename_i h1
   rw[Wv h1] at h
   exact Cd n h
  .rename_i h1
   rw[Ws h1] at h
   split
   .rfl
   .rename_i b;rw[Ws b] at h;exact absurd rfl h
structure OL (g:ag) (i:Nat) (b:im):Prop where
 state:b.state=i
 len:0<=b.len/\b.len<=b.word.length
 short:b.word.length<=60
 an:∀ x∈b.word,0<=x/\x < g.an.length
 right:bq g=true
theorem Nt {g:ag} {i:Nat} {b:im} (h:(dF g).1[i]?=some b):OL g i b/\(dF g).2=0:=by
 have d:(cn g).2=0:=by
  unfold dF at h
  split at h
  .simp at h
  .rename_i e;exact Yu.1 e
 have a:dF g=cE g (cn g).1 (cn g).1.length:=by
  unfold dF
  rw[Ws (by simp[d])]
 rw[a] at h ⊢
 have he:(cE g (cn g).1 (cn g).1.length).2=0:=by
  refine X5 λc=>?_
  rw[Cd _ c] at h
  simp at h
 refine⟨?_,he⟩
 obtain⟨l,f⟩:=GD _ he
 have hi:i < (cn g).1.length:=by
  have:=(Wy.1 h).1
  omega
 obtain⟨j,hw⟩:=f i hi
 rw[j] at h
 simp only[Wu] at h
 subst h
 obtain⟨k,_,z3⟩:=Q8 hw
 have m:=(Hn hw).2
 exact⟨rfl,⟨by simp[zy],by simp only[zy];omega⟩,(As (g:=g) _).2,z3,k⟩
theorem EF {g:ag} {b:im} (h:b∈(dF g).1):∃ i,i < 300/\OL g i b:=by
 obtain⟨i,hi⟩:=List.mem_iff_getElem?.1 h
 refine⟨i,?_,(Nt hi).1⟩
 have:=(Wy.1 hi).1
 have:=(xL g).1
 omega
theorem TM {g:ag} (c:g.an.length<=1000) {b:im} (h:b∈(dF g).1):b.word.length<=60/\(0<=b.len/\b.len<=b.word.length)/\(∀ x∈b.word,ba x)/\ba b.state:=by
 obtain⟨i,hi,o⟩:=EF h
 exact⟨o.short,o.len,λx a=>by have:=o.an x a;unfold ba;omega,by rw[o.state];unfold ba;omega⟩
theorem RH {g:ag} {m:Int} (hm:m<=60) {b:im} (h:b∈(dF g).1) {x:List Int} (a:∀ y∈x,y∈b.word∨(0<=y/\y < g.an.length)) (c:(x.length:Int)<=m):(j7 g x).2=0:=by
 obtain⟨i,hi,o⟩:=EF h
 rw[C1 o.right (λy d=>(a y d).elim (o.an y) id) hm c]
def Nq:List Int:=[37,37,32,115,32,58,32,39,40,39,32,115,32,39,41,39,32,124,32,59]
def cF:ag:=⟨[⟨⟨#[39,40,39]⟩,0,0⟩,⟨⟨#[39,41,39]⟩,0,0⟩],[⟨#[115]⟩],[⟨0,[0,-1,1],1⟩,⟨0,[],-1⟩],0⟩
theorem Uf:cd Tryz.prog 44 [Bc Nq] (rG cF):=Kq (by kernel_rfl)
theorem yg:cF.Ok:=by
 refine⟨by unfold aC;decide,by unfold aC;decide,by unfold aC;decide,by unfold ba;decide,?_,?_⟩
 .intro t a;simp[cF] at a;rcases a with rfl | rfl <;> unfold ba <;> decide
 .intro r hr;simp[cF] at hr;rcases hr with rfl | rfl <;> unfold ba aC <;> decide
theorem sj:cF.Small:=⟨by decide⟩
theorem RP:bq cF=true:=by kernel_rfl
def Mp:List aR:=[⟨[⟨-1,0⟩],[⟨0,1⟩,⟨-1,2⟩]⟩,⟨[⟨0,1⟩],[⟨0,1⟩,⟨-1,3⟩]⟩,⟨[⟨-1,1⟩],[]⟩,⟨[⟨0,2⟩],[⟨1,4⟩]⟩,⟨[⟨0,3⟩],[]⟩]
theorem Vu:cn cF=(Mp,0):=by
 have hr:isRed cF=true:=by kernel_rfl
 unfold cn
 rw[Wv hr]
 exact HE (vr hr) 10 0 eE Mp mU (by kernel_rfl) 302 (by omega)
def Bp:List im:=[⟨0,0,[]⟩,⟨1,1,[0,1]⟩,⟨2,0,[]⟩,⟨3,1,[0,1]⟩,⟨4,2,[0,1]⟩]
theorem SL:dF cF=(Bp,0):=by
 unfold dF
 rw[Vu]
 have h:cE cF Mp 5=(Bp,0):=by kernel_rfl
 exact h
theorem UT {g:ag} {p:List Int} (wt:Int->Int) (hr:∀ R∈g.rules,wt (-1 - R.left)=(R.right.map wt).sum) (hp:∀ x∈p,0<=x) {l:List Int} {i j:Nat} (h:Sp g p l i j):(((p.drop i).take (j - i)).map wt).sum=(l.map wt).sum:=by
 induction h with
 | nil i=>simp
 | term s l i j m n o q =>
  obtain⟨x,a,b⟩:=n
  have r:=hp x (WI a)
  have c:=(Wy.1 a).1
  have hle:=o.le
  have e:p.drop i=x :: p.drop (i+1):=by
   rw[XH c,(Wy.1 a).2]
  rw[e,show j - i=(j - (i+1))+1 by omega,List.take_succ_cons,WZ,WZ,List.sum_cons,List.sum_cons,q]
  rcases b with rfl | rfl
  .rfl
  .omega
 | dQ s l R i k j m t u h1 v d f =>
  have w:=h1.le
  have y:=v.le
  have e:(p.drop i).take (j - i)=(p.drop i).take (k - i) ++ (p.drop k).take (j - k):=by
   rw[show j - i=(k - i)+(j - k) by omega,List.take_add,List.drop_drop,show i+(k - i)=k by omega]
  rw[e,W6,List.sum_append,d,f,WZ,List.sum_cons,<-hr R t,u]
  congr 2
  omega
def RX (s:Int):Int:=if s=0 then 1 else if s=1 then -1 else 0
theorem Sr {p:List Int} (hp:∀ x∈p,0<=x) (h:(p.map RX).sum≠0):lV cF p=false:=by
 rw[Bool.eq_false_iff,Ne,AV RP]
 intro b
 have:=UT RX (λR a=>by
  simp[cF] at a
  rcases a with rfl | rfl <;> rfl) hp b
 rw[X1,Nat.sub_zero,X0] at this
 exact h this
theorem VC:lV jv [0,0]=true:=by
 refine(AV (show bq jv=true by kernel_rfl) _).2 ?_
 have e:∀ i j,Sp jv [0,0] [-1] (i+1) j->[(0:Int),0][i]?=some 0->Sp jv [0,0] [-1] i j:=λi j h hi =>
  .dQ (-1) [] ⟨0,[0,-1],0⟩ i j j (by decide) (by simp[jv]) (by decide) (.term 0 [-1] i j (by decide) ⟨0,hi,.inl rfl⟩ h) (.nil _)
 exact e 0 2 (e 1 2 (.dQ (-1) [] ⟨0,[],-1⟩ 2 2 2 (by decide) (by simp[jv]) (by decide) (.nil _) (.nil _)) rfl) rfl
theorem UB:gU cF [0,1] 1 0 5=(([0,0],true),0):=by
 unfold gU
 rw[Wv ⟨by kernel_rfl,by decide,by decide,by decide⟩]
 have h:kC cF (ey [0,1] 1 1 [0]) 5=true:=(Ix RP (by decide) (by decide)).2 ⟨by decide,Sr (by decide) (by decide)⟩
 rw[show (1:Int).toNat=1 from rfl,iN,Wv ⟨by decide,by decide,h⟩]
 rfl
theorem Sx:gU cF [0] 2 0 5=(([],false),1):=by
 unfold gU
 rw[Ws (by rintro⟨_,⟨_,h⟩,_⟩;exact absurd h (by decide))]
theorem UU:gU jv [0] 0 0 5=(([],false),0):=by
 unfold gU
 rw[Wv ⟨by kernel_rfl,by decide,by decide,by decide⟩]
 have h:kC jv (ey [0] 0 0 [0]) 5=false:=by
  rw[Bool.eq_false_iff,Ne,Ix (show bq jv=true by kernel_rfl) (by decide) (by decide)]
  rintro⟨_,h⟩
  have:lV jv [0,0]=false:=h
  rw[VC] at this
  simp at this
 rw[show (0:Int).toNat=0 from rfl,iN,Ws (by rintro⟨_,h,_⟩;exact h rfl),Ws (by rw[h];simp)]
theorem Bm {p:List Int} (h1:∀ x∈p,0<=x/\x < 2) (b:p.length<=9) (h:(p.map RX).sum≠0):kC cF p 9=true :=
 (Ix RP (λx a=>⟨(h1 x a).1,(h1 x a).2⟩) (by decide)).2 ⟨by omega,Sr (λx a=>(h1 x a).1) h⟩
theorem yT (i:Int):nB cF ⟨i,0,[]⟩ 9=[[0],[1]]/\nB cF ⟨i,1,[0,1]⟩ 9=[[0,0],[0,1,1],[0]]/\nB cF ⟨i,2,[0,1]⟩ 9=[[0,1,0],[0,1,1]]:=by
 have a:kC cF [0] 9=true:=Bm (by decide) (by decide) (by decide)
 have b:kC cF [1] 9=true:=Bm (by decide) (by decide) (by decide)
 have c:kC cF [0,0] 9=true:=Bm (by decide) (by decide) (by decide)
 have d:kC cF [0,1,1] 9=true:=Bm (by decide) (by decide) (by decide)
 have e:kC cF [0,1,0] 9=true:=Bm (by decide) (by decide) (by decide)
 unfold nB qD
 rw[show cF.an.length=2 from rfl,show List.range 2=[0,1] from rfl]
 simp[iN,ey,a,b,c,d,e]
def BL:List (Int × List Int):=[(0,[0]),(0,[1]),(1,[0,0]),(1,[0,1,1]),(1,[0]),(2,[0]),(2,[1]),(3,[0,0]),(3,[0,1,1]),(3,[0]),(4,[0,1,0]),(4,[0,1,1])]
theorem N8:pO cF 9=(BL,0):=by
 have h:Bp.flatMap (ic cF 9)=BL:=by
  simp[Bp,ic,(yT 0).1,(yT 1).2.1,(yT 2).1,(yT 3).2.1,(yT 4).2.2,BL]
 unfold pO
 rw[Wv ⟨by kernel_rfl,by decide,by decide⟩,SL,h]
 rfl
theorem UR:pO tg 9=([],1):=by
 unfold pO
 rw[Ws (by rw[show isRed tg=false by kernel_rfl];simp)]
def qa:SF:=⟨ai [af [cJ 2 0,bc 4 false],ai [af [aa 7 1,aQ 8 7,ay 9 4 2,au 10 9,aZ 11 .gtr 8 10],bf 11 (ai [af [bc 4 false],.ret])],af [ay 13 0 2,bj 14 4 13,aa 15 1,aT 16 19 [14,15],aa 12 16,dO 17 0 12,dO 18 1 12,aa 5 17,aa 6 18],.region false [⟨none,[aa 19 6,aF 20 .eql 19 0,aa 21 20]⟩,⟨(some (21,true)),[aa 22 5,cW 23 22]⟩,⟨none,[fe 24 21 23,aa 4 24]⟩],.ret],
 [.tmp 4],25⟩
theorem uT:aG Tryz.prog 141 [2]=some qa:=by kernel_rfl
def y9:SF:=⟨ai [af [bc 2 false],.region false [⟨none,[aa 3 0,aF 4 .geq 3 0,aa 5 4]⟩,⟨(some (5,true)),[aa 6 0,aF 7 .leq 6 60]⟩,⟨none,[fe 8 5 7,aa 2 8]⟩],.ret],
 [.tmp 2],9⟩
theorem Cb:aG Tryz.prog 79 []=some y9:=by kernel_rfl
def iK (g:ag) (m:Int):List V:=[.aL (g.an.map dp),encS g.ax,.aL (g.rules.map aU),gi g.start,gi m]
theorem gM (g:ag) (m:Int):Tree (.agg (iK g m)):=.agg _ λi hi=>by
 have h:=cQ g
 match i,hi with
 | 0,_=>exact h _ (by simp[ak,iK])
 | 1,_=>exact h _ (by simp[ak,iK])
 | 2,_=>exact h _ (by simp[ak,iK])
 | 3,_=>exact .val _
 | 4,_=>exact .val _
theorem KF (g:ag) (b:g.Ok) (c:g.Small) (w:List Int) (hw:aC w) (d:∀ x∈w,ba x) (m:Int) (e:(w.length:Int)<=m->(j7 g w).2=0):az Tryz.prog 141 [.agg (iK g m),encI w] (gb (kC g w m)):=by
 refine az.val (by
  intro v a;simp at a
  rcases a with rfl | rfl
  .exact gM g m
  .exact aX _) λH=>?_
 have h1:=TJ g b c w hw d
 unfold kC
 generalize j7 g w=x at *
 refine ao.of mixed uT ?_
 unfold aC at hw
 simp only[ak,encS,encI] at h1
 simp(disch:=omega)only[↓wr,seval,wq,qa,encI,iK,encS]
 apply aj.dec<;>intro f
 .rw[decide_eq_false (show ¬ ((w.length:Int)<=m) by omega)]
  simp(disch:=omega)only[↓wr,seval,wq]
  rfl
 .rw[Xc (show ((w.length:Int)<=m) by omega)]
  simp(disch:=omega)only[↓wr,seval,wq,encS]
  refine aq.pure h1 ?_
  have i:=e (by omega)
  simp(disch:=omega)only[↓wr,seval,wq,y7]
  refine aj.eq (λ_=>?_) (λh=>absurd i h)
  simp(disch:=omega)only[↓wr,seval,wq]
  rw[Xj]
theorem JR (m:Int):az Tryz.prog 79 [gi m] (gb (decide (0<=m) && decide (m<=60))):=by
 refine az.val (by intro v a;simp at a;subst a;exact .val _) λH=>?_
 refine ao.of mixed Cb ?_
 simp(disch:=omega)only[↓wr,seval,wq,y9]
 apply aj.dec<;>intro b
 .rw[Xc (show 0<=m by omega)]
  simp(disch:=omega)only[↓wr,seval,wq]
  rw[Xj]
 .rw[decide_eq_false (show ¬ 0<=m by omega)]
  simp(disch:=omega)only[↓wr,seval,wq]
  rfl
def jo:SC :=
 ai [ai [af [aa 7 2,aa 8 3,aZ 9 .lss 7 8],cp 9 (.exit 0)],.block 1 (af [aa 14 0,aa 15 2,aa 16 0,aa 17 3,aa 18 0,aa 19 3,aY 20 1 18 19,au 21 20,aa 22 0,aa 23 2,aY 24 1 22 23,au 25 24,aY 26 1 14 15,df 1 26 21,aY 27 1 16 17,df 1 27 25]),af [aa 10 2,aF 11 .add 10 1,aa 12 3,aF 13 .sub 12 1,aa 2 11,aa 3 13]]
def jY:SF:=⟨ai [af [aa 4 0,aQ 5 4,aF 6 .sub 5 1,bb 2 0,aa 3 6],cz 0 jo],
 [],28⟩
theorem oh:aG Tryz.prog 285 []=some jY:=by kernel_rfl
def lh:SF:=⟨ai [af [aa 4 0,aa 5 1,((some 6),.op (.slice 1 (.tmp 4) none (some (.tmp 5)))),aT 7 285 [6]],af [aa 8 0,aa 9 1,((some 10),.op (.slice 1 (.tmp 8) (some (.tmp 9)) none)),aT 11 285 [10]],af [aa 12 0,aT 13 285 [12]]],
 [],14⟩
theorem p9:aG Tryz.prog 253 []=some lh:=by kernel_rfl
def kK:SF:=⟨af [aa 4 0,aa 5 0,aQ 6 5,aa 7 1,aZ 8 .sub 6 7,aT 9 253 [4,8]],
 [],10⟩
theorem px:aG Tryz.prog 202 []=some kK:=by kernel_rfl
def wz (l cur:List Int) (off len i:Nat):Prop:=cur.length=l.length/\∀ k,k < l.length->cur.getD k 0=if off<=k/\k < off+len/\(k < off+i∨off+len<=k+i) then l.getD (off+(off+len - 1) - k) 0 else l.getD k 0
def HV (l cur:List Int) (off len:Nat):Prop:=cur.length=l.length/\∀ k,k < l.length->cur.getD k 0=if off<=k/\k < off+len then l.getD (off+(off+len - 1) - k) 0 else l.getD k 0
theorem wz.zero (l:List Int) (off len:Nat):wz l l off len 0:=⟨rfl,λk hk=>by rw[Ws (by omega)]⟩
theorem wz.done {l cur:List Int} {off len i:Nat} (h:wz l cur off len i) (hi:len<=2 * i+1):HV l cur off len:=⟨h.1,λk hk=>by
 rw[h.2 k hk]
 by_cases a:off<=k/\k < off+len
 .rw[Wv a]
  by_cases b:k < off+i∨off+len<=k+i
  .rw[Wv ⟨a.1,a.2,b⟩]
  .rw[Ws (λh=>b h.2.2),show off+(off+len - 1) - k=k by omega]
 .rw[Ws a,Ws (λh=>a ⟨h.1,h.2.1⟩)]⟩
theorem Eg (l:List Int) (i j:Nat) (x:Int) (hi:i < l.length):(l.set i x).getD j 0=if i=j then x else l.getD j 0:=by
 simp only[Wo]
 by_cases e:i=j
 .subst e;rw[Wv rfl,Yh hi];rfl
 .rw[Ws e,List.getElem?_set_ne e]
theorem wz.next {l cur:List Int} {off len i:Nat} (h:wz l cur off len i) (g:off+len<=l.length) (hi:2 * i+1 < len) :
  wz l ((cur.set (off+i) (cur.getD (off+(len - 1 - i)) 0)).set (off+(len - 1 - i)) (cur.getD (off+i) 0)) off len (i+1):=by
 obtain⟨h1,a⟩:=h
 refine⟨by simp[h1],λk hk=>?_⟩
 have b:=a (off+i) (by omega)
 have c:=a (off+(len - 1 - i)) (by omega)
 rw[Ws (by omega)] at b c
 rw[Eg _ _ _ _ (by rw[X6];omega),Eg _ _ _ _ (by omega),b,c]
 by_cases d:off+(len - 1 - i)=k
 .rw[Wv d,Wv (by omega),show off+(off+len - 1) - k=off+i by omega]
 .rw[Ws d]
  by_cases e:off+i=k
  .rw[Wv e,Wv (by omega),show off+(off+len - 1) - k=off+(len - 1 - i) by omega]
  .rw[Ws e,a k hk]
   by_cases f:off<=k/\k < off+len/\(k < off+i∨off+len<=k+i)
   .rw[Wv f,Wv (by omega)]
   .rw[Ws f,Ws (by omega)]
theorem vy {l:List Int} {i:Nat} (h:i < l.length):(aM l).getD i []=[gi (l.getD i 0)]:=by
 simp[Wo,Wp h]
theorem wO {H:View} {id:Nat} {l:List Int} {off len:Nat} (g:H id=.arr 1 (aM l)) (h:off+len<=l.length) (j:aC l):ao Tryz.prog 285 [.sl id off len 1] H λ_ H'=>∃ cur,H' id=.arr 1 (aM cur)/\HV l cur off len/\∀ k,k≠id->H' k=H k:=by
 unfold aC at j
 refine ao.of mixed oh ?_
 simp(disch:=omega)only[↓wr,seval,wq,jY]
 refine bk.up len (λi T H'=>(∃ cur,H' id=.arr 1 (aM cur)/\wz l cur off len i)/\(∀ k,k≠id->H' k=H k)/\T 0=.sl id off len 1/\T 2=gi i/\T 3=.val (.int .i64 ((len:Int) - 1 - i))) ⟨⟨l,g,wz.zero _ _ _⟩,λ_ _=>rfl,rfl,rfl,by show V.val _=_;congr 2;omega⟩ ?_
 rintro i k T H1 hk ⟨⟨cur,e,c⟩,b,t0,t2,t3⟩
 simp(disch:=omega)only[↓wr,seval,wq,jo,t0,t2,t3]
 apply aj.dec<;>intro m
 .have n:((len:Int) - 1 - i).toNat=len - 1 - i:=by omega
  have o:=c.1
  have p:(aM cur).getD (off+i) []=[gi (cur.getD (off+i) 0)]:=by
   simp[Wo,Wp (show off+i < cur.length by omega)]
  have d:(aM cur).getD (off+(len - 1 - i)) []=[gi (cur.getD (off+(len - 1 - i)) 0)]:=by
   simp[Wo,Wp (show off+(len - 1 - i) < cur.length by omega)]
  simp(disch:=omega)only[↓wr,seval,wq,t0,t2,t3,e,n,p,d]
  refine⟨by omega,by omega,by omega,by omega,by omega,by omega,by omega,by rw[X6,WG];omega,aJ hk (by omega) ⟨⟨_,?_,c.next h (by omega)⟩,λk hk=>?_,t0,rfl,?_⟩⟩
  .simp only[View.set,if_true]
   congr 1
   have f:∀ (L:List Int) (a:Nat) (x:Int),(aM L).set a [gi x]=aM (L.set a x):=λL a x=>Yr.symm
   rw[f,vy (by rw[X6];omega)]
   exact f _ _ _
  .simp only[View.set,Ws hk]
   exact b k hk
  .show V.val _=V.val _
   congr 2
   omega
 .simp(disch:=omega)only[↓wr,seval,wq]
  exact⟨cur,e,c.done (by omega),b⟩
def DS (l cur:List Int) (off len r:Nat):Prop:=cur.length=l.length/\∀ k,k < l.length->cur.getD k 0=if off<=k/\k < off+len then (if k+r < off+len then l.getD (k+r) 0 else l.getD (k+r - len) 0) else l.getD k 0
theorem DS.of {l a b c:List Int} {off len r:Nat} (hr:r<=len) (j:off+len<=l.length) (h1:HV l a off r) (g:HV a b (off+r) (len - r)) (i:HV b c off len):DS l c off len r:=by
 obtain⟨m,a2⟩:=h1
 obtain⟨n,f⟩:=g
 obtain⟨c1,c2⟩:=i
 refine⟨by omega,λk hk=>?_⟩
 rw[c2 k (by omega)]
 by_cases d:off<=k/\k < off+len
 .rw[Wv d,Wv d]
  have e:off+(off+len - 1) - k < l.length:=by omega
  rw[f _ (by omega)]
  by_cases h:k+r < off+len
  .rw[Wv h,Wv (by omega),a2 _ (by omega),Ws (by omega)]
   congr 1;omega
  .rw[Ws h,Ws (by omega),a2 _ (by omega),Wv (by omega)]
   congr 1;omega
 .rw[Ws d,Ws d,f k (by omega),Ws (by omega),a2 k hk,Ws (by omega)]
theorem FB {H:View} {id:Nat} {l:List Int} {off len r:Nat} (g:H id=.arr 1 (aM l)) (h:off+len<=l.length) (hr:r<=len) (e:aC l):ao Tryz.prog 253 [.sl id off len 1,gi r] H λ_ H'=>∃ cur,H' id=.arr 1 (aM cur)/\DS l cur off len r/\∀ k,k≠id->H' k=H k:=by
 have d:=e
 unfold aC at d
 refine ao.of mixed p9 ?_
 have s1:=zQ (id:=id) (off:=off) (k:=len) (m:=r) hr
 have s2:=z7 (id:=id) (off:=off) (k:=len) (m:=r) hr
 simp(disch:=omega)only[↓wr,seval,wq,lh,s1,s2]
 refine aq.bX ((wO g (off:=off) (len:=r) (by omega) e).mono ?_)
 rintro u H1 ⟨a,i,h1,j⟩
 simp(disch:=omega)only[↓wr,seval,wq,s1,s2]
 refine aq.bX ((wO i (off:=off+r) (len:=len - r) (by rw[h1.1];omega) (by unfold aC;rw[h1.1];omega)).mono ?_)
 rintro v w ⟨b,n,f,k2⟩
 simp(disch:=omega)only[↓wr,seval,wq,s1,s2]
 have o:=f.1
 have p:=h1.1
 refine aq.bX ((wO n (off:=off) (len:=len) (by omega) (by unfold aC;omega)).mono ?_)
 rintro x y ⟨c,q,s,t⟩
 simp(disch:=omega)only[↓wr,seval,wq]
 exact⟨c,q,DS.of hr h h1 f s,λk hk=>by rw[t k hk,k2 k hk,j k hk]⟩
theorem Du {H:View} {id:Nat} {l:List Int} {off len m:Nat} (c:H id=.arr 1 (aM l)) (d:off+len<=l.length) (hr:m<=len) (b:aC l):ao Tryz.prog 202 [.sl id off len 1,gi m] H λ_ H'=>∃ cur,H' id=.arr 1 (aM cur)/\DS l cur off len (len - m)/\∀ k,k≠id->H' k=H k:=by
 have a:=b
 unfold aC at a
 refine ao.of mixed px ?_
 have h1:=FB c d (r:=len - m) (by omega) b
 rw[show ((len - m:Nat):Int)=(len:Int) - m by omega] at h1
 simp(disch:=omega)only[↓wr,seval,wq,kK]
 refine aq.bX (h1.mono ?_)
 rintro e H1 h
 simp(disch:=omega)only[↓wr,seval,wq]
 exact h
def zq:Prop:=∀ (H:View) (u:V) (v:Nat) (l:List Int) (i:Nat) (t:Int),aH H u 1 (aM l)->H v=.arr 1 [[gi t]]->owner u≠some v->i<=l.length->l.length<=1000 ->
 ao Tryz.prog 142 [u,gi i,.sl v 0 1 1] H λr H'=>aH H' r 1 (aM (ey l i 0 [t]))/\∀ id,H id≠.dead->id≠v->owner u≠some id->H' id=H id/\owner r≠some id
def MG:Prop:=∀ (H:View) (u:V) (l:List Int) (p:Nat),aH H u 1 (aM l)->p < l.length->l.length<=1000 ->
 ao Tryz.prog 144 [u,gi p,gi ((p:Int)+1)] H λr H'=>aH H' r 1 (aM (ey l p 1 []))/\Left H H' u r
def oU:SF:=⟨ai [af [cJ 4 0,b7 8 1,bc 9 false],ai [.region false [⟨none,[aa 12 2,aa 13 1,aQ 14 13,aZ 15 .lss 12 14,aa 16 15]⟩,⟨(some (16,true)),[aa 17 1,aa 18 2,aY 19 1 17 18,au 20 19,aa 21 3,aZ 22 .neq 20 21]⟩,⟨none,[fe 23 16 22]⟩],bf 23 (ai [af [aa 24 1,aT 25 140 [24],aa 10 25],af [aa 26 10,aa 27 2,aa 28 3,aY 29 1 26 27,df 1 29 28],af [bj 30 5 4,aa 31 10,aT 32 141 [30,31]],bf 32 (ai [af [aa 33 10,aa 8 33,bc 9 true],.ret])])],af [aa 34 1,aT 35 140 [34],aa 36 2,aa 37 3,((some 38),.op (.bS 1 1 [(.val (.int .i64 0))] [(0,(.tmp 37))])),aT 39 142 [35,36,38],aa 11 39],ai [af [bj 40 5 4,aa 41 11,aT 42 141 [40,41]],bf 42 (ai [af [aa 43 11,aa 8 43,bc 9 true],.ret])],af [b7 8 1,bc 9 false],.ret],
 [.tmp 8,.tmp 9],44⟩
theorem tH:aG Tryz.prog 80 [4]=some oU:=by kernel_rfl
def xf:SF:=⟨ai [af [cJ 5 0,b7 10 1,bc 11 false,bb 12 0],ai [.region false [⟨none,[bj 15 4 5,aa 16 1,aT 17 52 [15,16],cW 18 17,aa 19 18]⟩,⟨(some (19,false)),[aa 20 2,aF 21 .lss 20 0]⟩,⟨none,[b6 22 19 21,aa 23 22]⟩,⟨(some (23,false)),[aa 24 2,aa 25 1,aQ 26 25,aZ 27 .gtr 24 26]⟩,⟨none,[b6 28 23 27,aa 29 28]⟩,⟨(some (29,false)),[aa 30 3,aF 31 .lss 30 0]⟩,⟨none,[b6 32 29 31,aa 33 32]⟩,⟨(some (33,false)),[aa 34 3,ay 35 0 5,au 36 35,aQ 37 36,aZ 38 .geq 34 37]⟩,⟨none,[b6 39 33 38,aa 40 39]⟩,⟨(some (40,false)),[aa 41 4,aT 42 79 [41],cW 43 42]⟩,⟨none,[b6 44 40 43]⟩],bf 44 (ai [af [b7 10 1,bc 11 false,bb 12 1],.ret])],af [bj 46 4 5,aa 47 4,((some 48),.op (.build [(.emp 1),(.emp 1),(.emp 1),(.val (.int .i64 0)),(.val (.int .i64 0))] [(0,4,(.tmp 46)),(4,1,(.tmp 47))])),aa 49 1,aa 50 2,aa 51 3,aT 52 80 [48,49,50,51],aa 45 52,dO 53 0 45,dO 54 1 45,aa 13 53,aa 14 54],af [aa 55 13,aa 56 14,aa 10 55,aa 11 56,bb 12 0],.ret],
 [.tmp 10,.tmp 11,.tmp 12],57⟩
theorem Ay:aG Tryz.prog 38 [5]=some xf:=by kernel_rfl
theorem Lk {w:List Int} {p:Nat} {t:Int} (h:p < w.length):ey w p 1 [t]=w.set p t:=by
 unfold ey
 rw[List.set_eq_take_append_cons_drop,Wv h]
 rfl
theorem HS (B:zq) (g:ag) (F:g.Ok) (G:g.Small) (m:Int) (w:List Int) (hw:w.length<=100) (I:∀ x∈w,ba x) (p:Nat) (hp:p<=w.length) (t:Int) (J:ba t)
  (K:∀ x:List Int,(∀ y∈x,y∈w∨y=t)->(x.length:Int)<=m->(j7 g x).2=0) (H:View) :
  ao Tryz.prog 80 [.agg (iK g m),encI w,gi p,gi t] H λr H'=>∃ u,r=.aO [u,gb (iN g w p t m).2]/\aH H' u 1 (aM (iN g w p t m).1):=by
 have b:=λn=>KF g F G (ey w p n [t]) (Fi (by omega)) (OA I J) m (K _ λy L=>(DD L).imp id λh=>by simpa using h)
 have z:p < w.length->w[p]?=some (w.getD p 0):=λh=>getD_some h
 have j:=λH=>qf w (by omega) (encI w) H (.inl rfl)
 unfold iN
 refine ao.of mixed tH ?_
 simp only[iK,encS] at b
 simp(disch:=omega)only[↓wr,seval,wq,oU,encI,iK,encS]
 apply aj.dec<;>intro M
 .have d:p < w.length:=by omega
  have z:=z d
  generalize w.getD p 0=x at z
  simp(disch:=omega)only[↓wr,seval,wq,encI,Ww,z,WL]
  apply aj.ne<;>intro k
  .simp(disch:=omega)only[↓wr,seval,wq,encI]
   refine aq.bX ((j _).mono ?_)
   rintro Q N ⟨o0,-⟩
   obtain⟨q,rfl,O⟩:=o0.sl (by simp;omega)
   have C:(aM w).getD p []=[gi x]:=by simp[Wo,z]
   simp(disch:=omega)only[↓wr,seval,wq,O,C]
   have P:(aM w).set p [gi t]=aM (ey w p 1 [t]):=by rw[Lk d];exact Yr.symm
   have D:aH (N.set q (.arr 1 (aM (ey w p 1 [t])))) (.sl q 0 w.length 1) 1 (aM (ey w p 1 [t])):=.inr ⟨q,by rw[WG,Lk d,X6],by simp[View.set]⟩
   refine⟨d,d,?_⟩
   rw[show [V.val (Value.int IntKind.i64 t)]=[gi t] from rfl,P]
   refine aq.tQ (b 1) (by kernel_rfl) (.val _) ⟨.tree (gM g m),.kE D,trivial⟩ ?_
   simp(disch:=omega)only[↓wr,seval,wq]
   apply aj.split<;>intro l
   .simp(disch:=omega)only[↓wr,seval,wq]
    rw[Wv ⟨d,k,l⟩]
    exact⟨_,rfl,D⟩
   .simp(disch:=omega)only[↓wr,seval,wq,encI]
    refine aq.bX ((j _).mono ?_)
    rintro u H1 ⟨c,-⟩
    have e:=c.fF
    simp(disch:=omega)only[↓wr,seval,wq,e]
    intro v s
    have A:=c.ne s
    have c:=c.fresh (o:=.arr 1 [[gi t]]) s
    refine aq.bX ((B _ u v w p t c (by simp[View.set]) A hp (by omega)).mono ?_)
    rintro r E ⟨f,-⟩
    have a:=f.fF
    simp(disch:=omega)only[↓wr,seval,wq,a,encS]
    refine aq.tQ (b 0) (by kernel_rfl) (.val _) ⟨.tree (gM g m),.kE f,trivial⟩ ?_
    simp(disch:=omega)only[↓wr,seval,wq,a]
    apply aj.split<;>intro i
    .simp(disch:=omega)only[↓wr,seval,wq,a]
     rw[Ws (λh=>by rw[l] at h;simp at h),Wv i]
     exact⟨_,rfl,f⟩
    .simp(disch:=omega)only[↓wr,seval,wq]
     rw[Ws (λh=>by rw[l] at h;simp at h),Ws (by rw[i];simp)]
     exact⟨_,rfl,.nil⟩
  .simp(disch:=omega)only[↓wr,seval,wq,encI]
   refine aq.bX ((j _).mono ?_)
   rintro u H1 ⟨c,-⟩
   have e:=c.fF
   simp(disch:=omega)only[↓wr,seval,wq,e]
   intro v s
   have A:=c.ne s
   have c:=c.fresh (o:=.arr 1 [[gi t]]) s
   refine aq.bX ((B _ u v w p t c (by simp[View.set]) A hp (by omega)).mono ?_)
   rintro r E ⟨f,-⟩
   have a:=f.fF
   simp(disch:=omega)only[↓wr,seval,wq,a,encS]
   refine aq.tQ (b 0) (by kernel_rfl) (.val _) ⟨.tree (gM g m),.kE f,trivial⟩ ?_
   simp(disch:=omega)only[↓wr,seval,wq,a]
   apply aj.split<;>intro i
   .simp(disch:=omega)only[↓wr,seval,wq,a]
    rw[Ws (λh=>h.2.1 k),Wv i]
    exact⟨_,rfl,f⟩
   .simp(disch:=omega)only[↓wr,seval,wq]
    rw[Ws (λh=>h.2.1 k),Ws (by rw[i];simp)]
    exact⟨_,rfl,.nil⟩
 .simp(disch:=omega)only[↓wr,seval,wq,encI]
  refine aq.bX ((j _).mono ?_)
  rintro u H1 ⟨c,-⟩
  have e:=c.fF
  simp(disch:=omega)only[↓wr,seval,wq,e]
  intro v s
  have A:=c.ne s
  have c:=c.fresh (o:=.arr 1 [[gi t]]) s
  refine aq.bX ((B _ u v w p t c (by simp[View.set]) A hp (by omega)).mono ?_)
  rintro r E ⟨f,-⟩
  have a:=f.fF
  simp(disch:=omega)only[↓wr,seval,wq,a,encS]
  refine aq.tQ (b 0) (by kernel_rfl) (.val _) ⟨.tree (gM g m),.kE f,trivial⟩ ?_
  simp(disch:=omega)only[↓wr,seval,wq,a]
  apply aj.split<;>intro i
  .simp(disch:=omega)only[↓wr,seval,wq,a]
   rw[Ws (λh=>by omega),Wv i]
   exact⟨_,rfl,f⟩
  .simp(disch:=omega)only[↓wr,seval,wq]
   rw[Ws (λh=>by omega),Ws (by rw[i];simp)]
   exact⟨_,rfl,.nil⟩
theorem QI (b:zq) (g:ag) (c:g.Ok) (d:g.Small) (m:Int) (w:List Int) (hw:w.length<=100) (f:∀ x∈w,ba x) (p:Nat) (hp:p<=w.length) (t:Int) (h:ba t)
  (i:∀ x:List Int,(∀ y∈x,y∈w∨y=t)->(x.length:Int)<=m->(j7 g x).2=0) :
  az Tryz.prog 80 [.agg (iK g m),encI w,gi p,gi t] (HH (iN g w p t m)) :=
 az.of (by
  intro v a;simp at a
  rcases a with rfl | rfl | rfl | rfl
  .exact gM g m
  .exact aX _
  .exact .val _
  .exact .val _) ((HS b g c d m w hw f p hp t h i _).mono λr H' ⟨u,e,o⟩ j k=>e ▸ zk (cg.kE o j k))
theorem Hd {h:Heap} {u v:V} {b:Bool} {e:Int} (hu:du h u v):du h (.aO [u,gb b,gi e]) (.aO [v,gb b,gi e]):=.aO _ _ rfl λi hi=>by
 match i,hi with
 | 0,_=>exact hu
 | 1,_=>exact .val _
 | 2,_=>exact .val _
theorem QN (l:zq) (g:ag) (c:g.Ok) (i:g.Small) (w:List Int) (hw:aC w) (j:∀ x∈w,ba x) (p t m:Int) (n:ba t) :
  cd Tryz.prog 38 [.agg (ak g),encI w,gi p,gi t,gi m] (qG (gU g w p t m)):=by
 refine cd.of (by
  intro v k;simp at k
  rcases k with rfl | rfl | rfl | rfl | rfl
  .exact eR g _ (by simp)
  .exact aX _
  .exact .val _
  .exact .val _
  .exact .val _) ?_
 have h1:=IB g c i w hw j
 have q:=JR m
 have bad:¬ (gY g w=true/\(0<=p/\p<=w.length)/\(0<=t/\t < g.an.length)/\(0<=m/\m<=60))->∀ h:Heap,du h (.aO [.emp 1,gb false,gi 1]) (qG (gU g w p t m)):=λs h=>by
  unfold gU
  rw[Ws s]
  exact Hd (.emp 1)
 have G:=c.an
 refine ao.of mixed Ay ?_
 simp only[ak,encS,encI] at h1
 unfold aC at hw
 simp(disch:=omega)only[↓wr,seval,wq,xf,encI,ak,encS]
 refine aq.pure h1 ?_
 simp(disch:=omega)only[↓wr,seval,wq,encI,ak,encS]
 apply aj.split<;>intro b
 rotate_left
 .simp(disch:=omega)only[↓wr,seval,wq]
  exact λa _=>bad (λh=>by rw[b] at h;simp at h) a
 simp(disch:=omega)only[↓wr,seval,wq,encI,ak,encS]
 apply aj.dec<;>intro c1
 .simp(disch:=omega)only[↓wr,seval,wq]
  exact λa _=>bad (λh=>by omega) a
 simp(disch:=omega)only[↓wr,seval,wq,encI,ak,encS]
 apply aj.dec<;>intro c2
 .simp(disch:=omega)only[↓wr,seval,wq]
  exact λa _=>bad (λh=>by omega) a
 simp(disch:=omega)only[↓wr,seval,wq,encI,ak,encS]
 apply aj.dec<;>intro z
 .simp(disch:=omega)only[↓wr,seval,wq]
  exact λa _=>bad (λh=>by omega) a
 simp(disch:=omega)only[↓wr,seval,wq,encI,ak,encS]
 apply aj.dec<;>intro A
 .simp(disch:=omega)only[↓wr,seval,wq]
  exact λa _=>bad (λh=>by omega) a
 simp(disch:=omega)only[↓wr,seval,wq,encI,ak,encS]
 refine aq.pure q ?_
 simp(disch:=omega)only[↓wr,seval,wq,encI,ak,encS]
 apply aj.split<;>intro hm
 rotate_left
 .simp(disch:=omega)only[↓wr,seval,wq]
  exact λa _=>bad (λh=>by
   rw[Xc h.2.2.2.1,Xc h.2.2.2.2] at hm
   simp at hm) a
 rw[WC,WH,WH] at hm
 obtain⟨hr,B,d⟩:=xA.1 b
 have e:=HS l g c i m w (by omega) j p.toNat (by omega) t n (λx C D=>by
  rw[C1 hr (λy E=>?_) hm.2 D]
  rcases C y E with h | rfl
  .exact d y h
  .omega) (λ_=>.dead)
 rw[show ((p.toNat:Nat):Int)=p by omega] at e
 unfold gU
 rw[Wv ⟨b,by omega,by omega,hm⟩]
 generalize iN g w p.toNat t m=x at *
 simp only[iK,encS,encI] at e
 simp(disch:=omega)only[↓wr,seval,wq,encI,ak,encS]
 refine aq.bX (e.mono ?_)
 rintro r H1 ⟨u,rfl,o⟩
 have ok:=o.fF
 simp(disch:=omega)only[↓wr,seval,wq,ok]
 exact λa F=>Hd (du.DJ (sz:=1) (f:=λx:Int=>.int .i64 x) (F ▸ o))
def ke (H H':View):Prop:=∀ id,H id≠.dead->H' id=H id
theorem ke.refl (H:View):ke H H:=λ_ _=>rfl
theorem ke.set {H H':View} {n:Nat} {o:bN} (h:ke H H') (b:H n=.dead):ke H (H'.set n o):=λid a=>by
 have:id≠n:=by rintro rfl;exact a b
 simp[View.set,this,h id a]
end Gv
