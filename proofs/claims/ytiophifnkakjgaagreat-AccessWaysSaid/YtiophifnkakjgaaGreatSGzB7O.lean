/-
  Part 15 of the proof: what the machine does and what the functions answer.
  Conditions: those that each lemma names.
-/
import Derived.Test.YtiophifnkakjgaaGreatSGzB7N
set_option linter.unusedSimpArgs false
set_option linter.unusedVariables false
set_option maxRecDepth 100000
set_option maxHeartbeats 20000000
namespace Gv
open Go Go.Proofs
theorem cg.two {H:View} {q:Nat} {v1 v2 t1 t2:V} (b:H q=.arr 1 [[v1],[v2]]) (h1:cg H v1 t1) (c:cg H v2 t2):cg H (.sl q 0 2 1) (.aT [[t1],[t2]]):=by
 rintro h rfl
 refine .sl q 0 2 1 1 [[v1],[v2]] [[t1],[t2]] b (by simp) rfl (λi hi=>?_) (λi j hi a=>?_)
 .match i,hi with
  | 0,_=>rfl
  | 1,_=>rfl
 .match i,hi with
  | 0,_ =>
   have:j=0:=by simp at a;omega
   subst this
   exact h1 h rfl
  | 1,_ =>
   have:j=0:=by simp at a;omega
   subst this
   exact c h rfl
theorem qG (x y:List Int) (a:x.length+y.length<=1000000):cT Tryz.prog 68 [.aT [[encI x],[encI y]]] (encI (x ++ y)):=by
 have:=Mf [x,y] (by simp;omega) (by simp)
 simpa using this
theorem dO.OU {g:af} {a:List aL} (b:dO g a) (d:a.length<=300):∀ s∈a,aK s.bT/\∀ e∈s.bT,bK e.sym/\bK e.to:=λs c=>⟨by have:=b.ok.bT s c;unfold aK;omega,λe he=>by
 have h1:=b.ok.sym s c e he
 have f:=b.ok.to s c e he
 unfold bK;omega⟩
theorem eF.up {H:View} {b:Nat} {g:af} {a:List aL} {l:List bt} {B B':Nat} {K:List dG} (h:eF H b g a l B K) (f:B<=B'):eF H b g a l B' K:=by
 obtain⟨q,us,d,S,m,c,w⟩:=h
 exact⟨q,us,d,S,m,c,w.own,w.map,w.born,λk=>by
  obtain⟨n,h1,i,e⟩:=w.seen k
  exact⟨n,h1,by omega,e⟩,w.is,w.ok⟩
theorem eF.fresh {H:View} {b:Nat} {g:af} {a:List aL} {l:List bt} {B:Nat} {K:List dG} (h:eF H b g a l B K) {n:Nat} (d:H n=.dead) {o:dF} : eF (H.set n o) b g a l B K:=by
 obtain⟨q,us,e,S,m,c,w⟩:=h
 refine⟨q,us,e,S,m,c,w.own.fresh d,?_,w.born,w.seen,w.is,w.ok⟩
 have:¬ q=n:=by rintro rfl;have:=w.map;rw[d] at this;simp at this
 simp[View.set,this,w.map]
theorem eF.stay {H H':View} {b:Nat} {g:af} {a:List aL} {l:List bt} {B:Nat} {K:List dG} (h:eF H b g a l B K) (hk:∀ id,H id≠.dead->H' id=H id):eF H' b g a l B K:=by
 obtain⟨q,us,d,S,m,c,w⟩:=h
 exact⟨q,us,d,S,m,c,w.own.stay hk,by rw[hk q (by rw[w.map];simp)];exact w.map,w.born,w.seen,w.is,w.ok⟩
theorem zR {α:Type} {x y z e:α} {K:List α} : (x :: y :: z :: e :: K).Perm (e :: x :: y :: z :: K):=Uw (l₁:=[x,y,z])
theorem eF.drop {H:View} {b:Nat} {g:af} {a:List aL} {l:List bt} {B:Nat} {e:dG} {K:List dG} (h:eF H b g a l B (e :: K)):eF H b g a l B K:=by
 obtain⟨q,us,d,S,m,c,w⟩:=h
 exact⟨q,us,d,S,m,c,(w.own.perm zR).tail,w.map,w.born,w.seen,w.is,w.ok⟩
theorem eF.add {H:View} {b:Nat} {g:af} {a:List aL} {l:List bt} {B:Nat} {K:List dG} (h:eF H b g a l B K) {H':View} {u:V} {sz:Nat} {es:List (List V)} (e:aJ H' u sz es) (d:cw H H' u):eF H' b g a l B ((u,sz,es) :: K):=by
 obtain⟨q,us,f,S,m,c,w⟩:=h
 exact⟨q,us,f,S,m,c,(w.own.Bp e d).perm zR.symm,by rw[(d q (by rw[w.map];simp)).1];exact w.map,w.born,w.seen,w.is,w.ok⟩
theorem eF.box {H:View} {b:Nat} {g:af} {a:List aL} {l:List bt} {B:Nat} {K:List dG} (h:eF H b g a l B K):∃ q us d,H b=.arr 8 [po g a q us d]:=by
 obtain⟨q,us,d,S,m,c,w⟩:=h
 exact⟨q,us,d,w.own.is 2 rfl (by simp)⟩
def kR:SC :=
 ae [ab [aU 66 .lss 65 64],cb 66 (.exit 0),.block 1 (ae [ab [aa 67 65,aZ 68 3 63 65,ba 69 3 68,((some 10),.op (.alloc [(.val (.int .i64 0)),(.emp 1),(.val (.int .i64 0))])),aa 9 67,cL 3 10 69],ab [al 70 0 10,ak 71 70,aa 72 5,((some 73),.op (.arith .sub (.val (.val (.int .i64 (-1)))) (.tmp 72))),aU 74 .eql 71 73],bf 74 (ab [aa 75 0,al 76 0 3,al 77 0 76,ak 78 77,aa 79 9,((some 80),.op (.build [(.val (.int .i64 0)),(.val (.int .i64 0))] [(0,1,(.tmp 79))])),((some 81),.op (.build [(.val (.int .i64 0)),(.val (.int .i64 0)),(.val (.int .i64 0))] [(0,1,(.tmp 78)),(1,2,(.tmp 80))])),al 82 3 3,ak 83 82,aa 84 4,((some 85),.op (.slice 1 (.tmp 84) (some (.val (.val (.int .i64 1)))) none)),al 86 4 3,ak 87 86,((some 88),.op (.bN 2 1 [(.emp 1)] [(0,(.tmp 85)),(1,(.tmp 87))])),((some 89),.nM (.val (.fn 68 [] [])) [(.tmp 88)]),((some 90),.op (.build [(.val (.int .i64 0)),(.val (.int .i64 0)),(.val (.int .i64 0)),(.emp 1),(.emp 1)] [(0,3,(.tmp 81)),(3,1,(.tmp 83)),(4,1,(.tmp 89))])),bg 91 125 [75,90]])]),ab [aF 92 .add 65 1,aa 65 92]]
def ma:SF:=⟨ae [ab [cG 3 1],ab [aa 11 0,al 12 0 3,al 13 1 12,ba 14 2 13,bg 15 127 [11,14],aa 4 15],ae [ab [aa 16 4,aP 17 16,aF 18 .eql 17 0],bf 18 (.ret)],ab [aa 19 4,((some 20),.op (.idx 1 (.tmp 19) (.val (.val (.int .i64 0))))),ak 21 20,aa 5 21],ab [aa 23 0,ka 24 23,al 25 4 24,ak 26 25,al 27 0 3,al 28 0 27,ak 29 28,aa 30 4,((some 31),.op (.slice 1 (.tmp 30) none (some (.val (.val (.int .i64 1)))))),bg 32 193 [26,29,31],aa 22 32,dz 33 0 22,dz 34 1 22,aa 6 33,aa 7 34],ab [al 35 0 3,al 36 1 35,al 37 0 36,ak 38 37,al 39 0 3,al 40 1 39,al 41 1 40,ak 42 41,aF 43 .add 42 1,((some 44),.op (.build [(.val (.int .i64 0)),(.val (.int .i64 0))] [(0,1,(.tmp 38)),(1,1,(.tmp 43))])),((some 8),.op (.alloc [(.val (.int .i64 0)),(.val (.int .i64 0))])),cL 2 8 44],ab [aa 45 0,aa 46 6,ba 47 2 8,((some 48),.op (.build [(.val (.int .i64 0)),(.val (.int .i64 0)),(.val (.int .i64 0))] [(0,1,(.tmp 46)),(1,2,(.tmp 47))])),al 49 3 3,ak 50 49,aa 51 4,((some 52),.op (.slice 1 (.tmp 51) none (some (.val (.val (.int .i64 1)))))),((some 53),.op (.bN 2 1 [(.emp 1)] [(0,(.tmp 50)),(1,(.tmp 52))])),((some 54),.nM (.val (.fn 68 [] [])) [(.tmp 53)]),al 55 4 3,ak 56 55,((some 57),.op (.build [(.val (.int .i64 0)),(.val (.int .i64 0)),(.val (.int .i64 0)),(.emp 1),(.emp 1)] [(0,3,(.tmp 48)),(3,1,(.tmp 54)),(4,1,(.tmp 56))])),bg 58 125 [45,57]],ab [aa 59 0,ka 60 59,al 61 0 60,al 62 2 61,ak 63 62,aP 64 63,aR 65 0],cd 0 kR],
 [],93⟩
theorem rz:aI Tryz.prog 126 [3,200054,200089]=some ma:=by kernel_rfl
theorem Nu (g:af) (hg:g.Ok) (a:List aL) (D:dO g a) (h3:a.length<=300) (b:Nat) (l:List bt) (hl:iG g a l) (s:dN) (hs:s.Ok) (i:Nat) (hi:l[i]?=some s.n) (B:Nat) (hB:B < 100000000) (K:List dG) (H:View) (hW:eF H b g a l B K) :
  au Tryz.prog 126 [.ptr b 0 0,.agg (df s)] H λ_ H'=>eF H' b g a (fc g a l s.n) (B+41) K:=by
 have U:=D.gM
 have hT:=U.ao;have hN:=U.aj;have da:=U.rules
 have f:=hl.nd s.n (SK hi)
 have A:=D.has f.lt f.it
 have dm:=hl.len i s.n hi
 have ds:=(SH.1 hi).1
 have dv:=hl.short D h3
 have ea:=f.small D
 have db:=iA U
 have b8:=A
 obtain⟨⟨eb,ee⟩,eg,ei⟩:=b8
 obtain⟨⟨E,F,ek⟩,⟨W,X,eH⟩⟩:=And.intro hs.a.eL hs.b.eL
 obtain⟨q,us,uf,hb⟩:=hW.box
 have p:=Hs g (by unfold bK;omega) a q us uf b H hb s.n.it A
 simp only[bq] at p
 have G:aK a:=by unfold aK;omega
 refine au.of mixed rz ?_
 simp(disch:=omega)only[↓wr,seval,wq,ma,df,E,F,W,X]
 refine av.dW (p.mono ?_)
 clear p
 rintro u H1 ⟨hu,Y⟩
 have a7:bZ u=some (dA g s.n.it).length:=by
  rcases hu with rfl | ⟨n,x,d,rfl,_⟩
  .simp[encI,bZ]
  .rfl
 have a8:(dA g s.n.it).length=(bB g s.n.it.aw).length - s.n.it.dot.toNat:=by unfold dA;simp
 simp(disch:=omega)only[↓wr,seval,wq,a7]
 apply ai.eq<;>intro he
 .simp(disch:=omega)only[↓wr,seval,wq]
  have J:(bo g s.n.it).2=false:=by
   unfold bo
   rw[St (by omega)]
  have:fc g a l s.n=l:=by
   unfold fc
   rw[Sr (by rw[J];simp)]
  rw[this]
  exact(hW.stay λid Z=>(Y id Z).1).up (by omega)
 obtain⟨y,J⟩:∃ y,bo g s.n.it=(y,true):=by
  unfold bo
  rw[Sr (by omega)]
  exact⟨_,rfl⟩
 obtain⟨f1,f2⟩:=mc A J
 have b9:fc g a l s.n=iK g s.n y g.rules.length (gH l ⟨gS a s.n.st y,⟨s.n.it.aw,s.n.it.dot+1⟩,s.n.ah ++ [y],s.n.be⟩):=by
  unfold fc
  rw[J,St rfl]
 rw[b9]
 rw[f1] at hu a7 a8
 obtain⟨s1,s2,s3,s4⟩:=D.step f.lt f.it J
 obtain⟨_,_,_,_,_,cc⟩:=D.gS s1
 have an:eo g y=true:=rf U A J
 have cf : -100<=y/\y<=100:=by
  unfold eo at an
  split at an <;> simp at an <;> omega
 have dj:(fI g s.n.it).length<=6:=by
  have:=dy U (r:=s.n.it.aw) ⟨by omega,by omega⟩
  simp only[SA] at a8
  omega
 obtain⟨m1,m2,m3⟩:=zA D hl (f.move D J) (by simp only[SV,SA,SZ];omega) (by simp only;omega)
 have hle:l.length<=(gH l ⟨gS a s.n.st y,⟨s.n.it.aw,s.n.it.dot+1⟩,s.n.ah ++ [y],s.n.be⟩).length:=by obtain⟨t,ht⟩:=m2;rw[ht];simp
 have ch:=λk hk=>AH D f J k _ hk m1 (by omega) (by omega)
 have aq:=NM a G (D.OU h3) s.n.st [y] (by unfold aK;simp)
 rw[cc] at aq
 have L:=qG s.n.ah [y] (by simp;omega)
 have M:=qG (fI g s.n.it) s.n.be (by omega)
 generalize bd:fI g s.n.it=rs at *
 have ar:∃ N O P,(u=encI (y :: rs)∨∃ n,u=.sl n 0 1 1/\H1 n=.arr 1 [[gi y]])/\cz 1 u none (some (gi 1))=some (O,.none,[])/\cz 1 u (some (gi 1)) none=some (P,.none,[])/\aE O=true/\V.cells O=[O]/\aE P=true/\V.cells P=[P] /\
   (∀ H' e1 e2 e3,bc H' (e1 :: e2 :: e3 :: N)->cg H' O (encI [y])/\cg H' P (encI rs))/\(∀ H' l B,eF H' b g a l B N->eF H' b g a l B K)/\eF H1 b g a l B N:=by
  rcases hu with rfl | ⟨n,x,d,rfl,h2,h4,h5⟩
  .refine⟨K,encI [y],encI rs,.inl rfl,?_,?_,rfl,rfl,rfl,rfl,λH' _ _ _ _=>⟨.tree (bU _),.tree (bU _)⟩,λ_ _ _ h=>h,hW.stay λid Z=>(Y id Z).1⟩
   .exact JB (l:=y :: rs) (k:=1) (by simp)
   .exact qB (l:=y :: rs) (k:=1) (by simp)
  .match d,h4 with
   | 0,_ =>
    simp only[TZ,List.cons.injEq] at h5
    obtain⟨rfl,rfl⟩:=h5
    refine⟨(.sl n 0 1 1,1,[[gi y]]) :: K,.sl n 0 1 1,.sl n 1 0 1,.inr ⟨n,rfl,h2⟩,?_,?_,rfl,rfl,rfl,rfl,λH' e1 e2 e3 ho=>?_,λ_ _ _ h=>h.drop,hW.add (.inr ⟨n,rfl,h2⟩) Y⟩
    .exact nJ (sz:=1) (id:=n) (off:=0) (k:=1) (m:=1) (by omega)
    .exact nE (sz:=1) (id:=n) (off:=0) (k:=1) (m:=1) (by omega)
    .have hH:=ho.is 3 rfl (by simp)
     have t:∀ e∈[[gi y]],∀ v∈e,Tree v:=by intro e he v hv;simp at he;subst he;simp at hv;subst hv;exact .val _
     have r1:si H' (.sl n 0 [y].length 1) [y]:=.inr ⟨n,y,0,rfl,hH,by omega,rfl⟩
     have r2:si H' (.sl n 1 ([]:List Int).length 1) []:=.inr ⟨n,y,1,rfl,hH,by omega,rfl⟩
     exact⟨r1.j4,r2.j4⟩
   | 1,_=>simp at h5
 obtain⟨N,O,P,cj,I,bl,c1,c2,c3,c4,ck,bn,a1⟩:=ar
 clear hW hu
 obtain⟨q1,e0,e4,br⟩:=a1.box
 have z:∀ H' l B,eF H' b g a l B N->cg H' O (encI [y])/\cg H' P (encI rs):=λH' l B h=>by
  obtain⟨q,us,uf,S,m,c,w⟩:=h
  exact ck H' _ _ _ w.own
 have cu:dN.Ok ⟨⟨gS a s.n.st y,⟨s.n.it.aw,s.n.it.dot+1⟩,s.n.ah ++ [y],s.n.be⟩,encI (s.n.ah ++ [y]),s.b⟩:=⟨.inl rfl,hs.b⟩
 have cv:∀ k:Nat,dN.Ok ⟨⟨s.n.st,⟨k,0⟩,s.n.ah,rs ++ s.n.be⟩,s.a,encI (rs ++ s.n.be)⟩:=λk=>⟨hs.a,.inl rfl⟩
 have Q:=bl
 obtain⟨u',bs⟩:∃ u',u=u':=⟨u,rfl⟩
 rw[bs] at Q
 have a6:∀ (x:Int) (t:Bool),uL (.aS [gi x,gb t]):=λx t=>.aS _ λi hi=>by
  match i,hi with
  | 0,_=>exact⟨_,rfl⟩
  | 1,_=>exact⟨_,rfl⟩
 have cA:∀ k:Nat,k < g.rules.length->g.rules[k]?=some (bH g k):=λk hk=>by unfold bH;exact getD_some (by simpa using hk)
 simp only[encI] at aq L M
 rcases cj with rfl | ⟨n,rfl,cC⟩
 focus
  simp only[encI,bC,S7] at I bl
  simp(disch:=omega)only[↓wr,seval,wq,df,encI,br,I,S3]
 rotate_left
 focus
  simp(disch:=omega)only[↓wr,seval,wq,df,encI,br,cC,I]
 all_goals (
  refine av.JU aq (by kernel_rfl) (a6 _ _) ⟨.tree (lp a),.tree (.val _),(z _ _ _ a1).1,trivial⟩ ?_
  simp(disch:=omega)only[↓wr,seval,wq,df]
  intro n8 bx
  have w2:=a1.fresh (o:=.arr 2 [[gi s.n.it.aw,gi (s.n.it.dot+1)]]) bx
  simp(disch:=omega)only[↓wr,seval,wq,df,I,c1,c2,E,F]
  rw[set_set]
  intro n9 C
  obtain⟨cN,C⟩:=bR C bP
  obtain⟨_,C⟩:=bR C bP
  have w3:=w2.fresh (n:=n9) (o:=.arr 1 [[s.a],[O]]) (by simp[View.set,cN,C])
  try simp(disch:=omega)only[↓wr,seval,wq,df]
  refine av.lD L (by kernel_rfl) ⟨cg.two (by simp[View.set]) hs.a.j4 (z _ _ _ w3).1,trivial⟩ ?_
  simp(disch:=omega)only[↓wr,seval,wq,df,W,X]
  have hm:=B3 g a b l B (by omega) (by omega) _ cu s4 N _ w3
  simp only[df,encI] at hm
  refine av.dW (hm.mono ?_)
  clear hm
  rintro _ H5 w5
  obtain⟨q5,e5,e6,b0⟩:=w5.box
  simp(disch:=omega)only[↓wr,seval,wq,b0]
  refine aY.up g.rules.length (λk T H'=>eF H' b g a (iK g s.n y k (gH l ⟨gS a s.n.st y,⟨s.n.it.aw,s.n.it.dot+1⟩,s.n.ah ++ [y],s.n.be⟩)) (B+1+k) N/\T 0=.ptr b 0 0/\T 3=.aG (df s) 0/\T 4=u'/\T 5=gi y/\T 63=.aT (g.rules.map aQ)/\T 64=gi g.rules.length/\T 65=gi k)
   ⟨w5,rfl,rfl,bs,rfl,rfl,rfl,rfl⟩ ?_
  clear w2 w3 w5 b0 bx C
  rintro k kk T H6 b1 ⟨w6,t0,t3,t4,t5,t63,t64,t65⟩
  simp(disch:=omega)only[↓wr,seval,wq,kR,t0,t3,t4,t5,t63,t64,t65]
  apply ai.dec<;>intro hc
  .have hR:=cA k (by omega)
   have cS:=U.left _ (SK hR)
   generalize b2:bH g k=R at hR cS
   simp(disch:=omega)only[↓wr,seval,wq,t0,t3,t4,t5,t63,t64,t65,Ss,hR,SD,aQ,encI]
   intro n10 b7
   have w7:=w6.fresh (o:=.arr 3 [aQ R]) b7
   apply ai.eq<;>intro e
   .simp(disch:=omega)only[↓wr,seval,wq,t0,t3,t4,t5,t63,t64,t65,Q,df,E,F,W,X,c3,c4]
    intro n11 j
    obtain⟨cV,j⟩:=bR j bP
    obtain⟨_,j⟩:=bR j bP
    have w8:=w7.fresh (n:=n11) (o:=.arr 1 [[P],[s.b]]) (by simp[View.set,cV,j])
    rw[set_set]
    try simp(disch:=omega)only[↓wr,seval,wq,t0,t3,t4,t5,t63,t64,t65,df]
    refine av.lD M (by kernel_rfl) ⟨cg.two (by simp[View.set]) (z _ _ _ w8).2 hs.b.j4,trivial⟩ ?_
    simp(disch:=omega)only[↓wr,seval,wq,t0,t3,t4,t5,t63,t64,t65,df,E,F]
    obtain⟨r1,_,_⟩:=ch k (by omega)
    have e7:=r1.short D h3
    have hm:=B3 g a b _ (B+1+k) (by omega) (by omega) _ (cv k) f.lt N _ w8
    simp only[df,encI] at hm
    refine av.dW (hm.mono ?_)
    clear hm
    rintro _ H9 w9
    simp(disch:=omega)only[↓wr,seval,wq,t0,t3,t4,t5,t63,t64,t65]
    refine aH b1 (by omega) ⟨?_,t0,t3,t4,t5,t63,t64,rfl⟩
    rw[iK,St (by rw[b2];exact e),bd]
    exact w9
   .simp(disch:=omega)only[↓wr,seval,wq,t0,t3,t4,t5,t63,t64,t65]
    refine aH b1 (by omega) ⟨?_,t0,t3,t4,t5,t63,t64,rfl⟩
    rw[iK,Sr (by rw[b2];exact e)]
    have w9:=w7.up (B':=B+1+(k+1)) (by omega)
    try rw[set_set]
    exact w9
  .simp(disch:=omega)only[↓wr,seval,wq,t0]
   obtain rfl:k=g.rules.length:=by omega
   exact(bn _ _ _ w6).up (by omega))
section
variable {P:Program} {T:Env} {H:View} {K:V->View->Prop} {w:cx (T,H,K)} {t t1 e ty:TypeId}
theorem HX {d x:Operand} {id off len sz bytes s:Nat} {z:List V} {es xs:List (List V)} {rd:List Nat} (he:ng P t=some (sz,bytes,z)) (g:ev T d=.sl id off len sz) (h:bA H (ev T x)=some (xs,rd)) (hH:H id=.arr s es) (i:off+len<=es.length)
  (j:(xs.all λe=>e.length == sz && e.all aE)=true) (k:(xs.take len).isEmpty=false) (hk:K (fA (xs.take len).length) (H.set id (.arr sz (dR es off (xs.take len))))) :
  iE P (.call { callee:=.builtin .copy,args:=#[d,x],argTypes:=#[t,t1] }) ty T H K w:=by
 obtain⟨e,ti,a,hi,b,m,l,f,c,rfl,rfl⟩:=jA he
 intro n _
 refine⟨fA (xs.take len).length,.eS id (.arr ti.size (dR es off (xs.take len))),id :: rd,?_,hk⟩
 simp only[sI,bY,oper]
 simp[vh,a,g,h,bZ,b,k,hH,i,c,j]
theorem N2 {d x:Operand} {k:Nat} {sz bytes:Nat} {z:List V} {xs:List (List V)} {rd:List Nat} (he:ng P t=some (sz,bytes,z)) (f:ev T d=.emp k) (g:bA H (ev T x)=some (xs,rd)) (hk:K (fA 0) H) :
  iE P (.call { callee:=.builtin .copy,args:=#[d,x],argTypes:=#[t,t1] }) ty T H K w:=by
 obtain⟨e,ti,a,hi,b,j,h,c,i,rfl,rfl⟩:=jA he
 intro n _
 refine⟨fA 0,.none,[],?_,hk⟩
 simp only[sI,bY,oper]
 simp[vh,a,f,g,bZ,b]
end
theorem s7:∀ (xs A B:List (List V)),xs.length<=B.length->dR (A ++ B) A.length xs=A ++ xs ++ B.drop xs.length
 | [],A,B,_=>by simp[dR]
 | x :: r,A,[],h=>by simp at h
 | x :: r,A,b :: B,h=>by
  rw[dR,List.set_append_right _ _ (Sy _),Nat.sub_self,List.set_cons_zero]
  have:=s7 r (A ++ [x]) B (by simpa using h)
  simpa using this
theorem Gr {id off k m:Nat} (hm:m<=k):cz 1 (.sl id off k 1) (some (gi m)) none=some (.sl id (off+m) (k - m) 1,.none,[]):=by
 simp[cz,bound,asNat,hm]
def u64 (n:Int):V:=.val (.int .u64 n)
noncomputable def Mh:List (FuncId × DF):=um Tryz.prog [(180,[]),(237,[])]
theorem LZ:oX Tryz.prog Mh:=qS _ _
noncomputable def QH (n:Nat):Bool:=match qQ Tryz.prog Mh (JA []) 180 [u64 1,u64 n] with
 | some (.aS [.val (.int .u64 a),.val (.int .u64 b)])=>a == 0 && b == n
 | _=>false
theorem Pz:(List.range 321).all QH=true:=by kernel_rfl
theorem Pn {n:Nat} (h:n<=320):ay Tryz.prog 180 [u64 1,u64 n] (.aS [u64 0,u64 n]):=by
 have c:=Tc.1 Pz n (TL.2 (by omega))
 unfold QH at c
 split at c
 .rename_i a b he
  simp only[SE,TA] at c
  obtain⟨rfl,rfl⟩:=c
  exact(nh mixed LZ (FA (l:=[]) (by simp)) (by intro v d;simp at d;rcases d with rfl | rfl <;> exact .val _) he).pure
 .simp at c
def fR:SC :=
 ae [ae [ab [aa 34 8,aa 35 7,aP 36 35,aU 37 .lss 34 36],cb 37 (.exit 0)],.block 1 (ab [aa 38 8,aa 39 7,aa 40 8,((some 41),.op (.slice 1 (.tmp 39) (some (.tmp 40)) none)),aa 42 7,aa 43 8,((some 44),.op (.slice 1 (.tmp 42) none (some (.tmp 43)))),((some 45),.op (.old (.call { callee:=.builtin .copy,args:=#[(.tmp 41),(.tmp 44)],argTypes:=#[27,27] }) 3)),aU 46 .add 38 45,aa 8 46])]
def jD:SF:=⟨ae [ab [bQ 4 1],ae [ab [aa 9 1,aF 10 .lss 9 0],bf 10 (.region false [⟨none,[((some 11),.op (.old (.makeInterface 9 (.const (.string ⟨#[99,97,110,110,111,116,32,98,101,32,110,101,103,97,116,105,118,101]⟩))) 20)),(none,.op (.old (.panic (.tmp 11)) 0))]⟩])],ab [aa 13 0,aP 14 13,((some 15),.op (.conv .u64 (.tmp 14))),aa 16 1,((some 17),.op (.conv .u64 (.tmp 16))),bg 18 180 [15,17],aa 12 18,dz 19 0 12,dz 20 1 12,aa 5 19,aa 6 20],ae [.region false [⟨none,[aa 21 5,((some 22),.op (.arith .gtr (.tmp 21) (.val (.val (.int .u64 0))))),aa 23 22]⟩,⟨(some (23,false)),[aa 24 6,((some 25),.op (.arith .gtr (.tmp 24) (.val (.val (.int .u64 9223372036854775807)))))]⟩,⟨none,[cR 26 23 25]⟩],bf 26 (.region false [⟨none,[((some 27),.op (.old (.makeInterface 9 (.const (.string ⟨#[116,104,101,32,114,101,115,117,108,116,32,111,102,32,40,108,101,110,40,120,41,32,42,32,99,111,117,110,116,41,32,111,118,101,114,102,108,111,119,115]⟩))) 20)),(none,.op (.old (.panic (.tmp 27)) 0))]⟩])],ab [aa 28 6,((some 29),.op (.conv .i64 (.tmp 28))),((some 30),.op (.make 1 8 [(.val (.int .i64 0))] (.tmp 29) (.tmp 29))),aa 7 30],ab [aa 31 7,aa 32 0,((some 33),.op (.old (.call { callee:=.builtin .copy,args:=#[(.tmp 31),(.tmp 32)],argTypes:=#[27,27] }) 3)),aa 8 33],cd 0 fR,ab [aa 47 7,aa 4 47],.ret],
 [.tmp 4],48⟩
theorem nP:aI Tryz.prog 115 []=some jD:=by kernel_rfl
theorem IY (n:Nat) (v:n<=320) (m:Nat) (H:View) (hm:H m=.arr 1 [[gi (-1)]]):au Tryz.prog 115 [.sl m 0 1 1,gi n] H λr H'=>aJ H' r 1 (bC (List.replicate n (-1)))/\cw H H' r:=by
 refine au.of mixed nP ?_
 have hmul:=Pn v
 unfold u64 at hmul
 have i:IntKind.u64.wrap 1=1:=by decide
 have j:IntKind.u64.wrap (n:Int)=n:=by
  unfold IntKind.wrap
  have w:(2:Int) ^ IntKind.u64.bits=18446744073709551616:=by rfl
  have x:IntKind.u64.signed=false:=by rfl
  simp only[w,x,TV,SN]
  simp
  omega
 have f:IntKind.i64.wrap (n:Int)=n:=wrap64 (by omega) (by omega)
 simp(disch:=omega)only[↓wr,seval,wq,jD]
 refine ai.dec (λh=>absurd h (by omega)) (λ_=>?_)
 simp(disch:=omega)only[↓wr,seval,wq]
 rw[i,j]
 refine av.pure hmul ?_
 simp(disch:=omega)only[↓wr,seval,wq,f]
 refine ai.dec (λh=>absurd h (by omega)) (λ_=>?_)
 simp(disch:=omega)only[↓wr,seval,wq,f]
 refine⟨⟨by omega,by unfold aC;omega,by unfold aC;omega⟩,λp=>?_,λp b g=>?_⟩
 .refine N2 (k:=2) (sz:=1) (bytes:=8) (z:=[gi 0]) (xs:=[[gi (-1)]]) (rd:=[m]) (by kernel_rfl) (by simp(disch:=omega)only[↓wr,seval,wq]) (by simp(disch:=omega)only[↓wr,seval,wq];simp[bA,hm]) ?_
  simp(disch:=omega)only[↓wr,seval,wq]
  refine aY.intro (λk T H'=>H'=H/\T 7=.emp 2/\T 8=fA 0) 0 ⟨rfl,rfl,rfl⟩ ?_
  rintro k T _ ⟨rfl,t7,t8⟩
  simp(disch:=omega)only[↓wr,seval,wq,fR,t7,t8]
  refine⟨?_,λid a=>⟨rfl,by simp[owner]⟩⟩
  rw[p];exact .nil
 have l:¬ m=b:=by rintro rfl;rw[hm] at g;simp at g
 refine HX (id:=b) (off:=0) (len:=n) (sz:=1) (bytes:=8) (z:=[gi 0]) (s:=1) (es:=List.replicate n [gi 0]) (xs:=[[gi (-1)]]) (rd:=[m]) (by kernel_rfl) (by simp(disch:=omega)only[↓wr,seval,wq]) (by simp(disch:=omega)only[↓wr,seval,wq];simp[bA,View.set,l,hm]) (by simp[View.set]) (by simp) (by simp[aE]) (by obtain⟨q,rfl⟩:∃ q,n=q+1:=⟨n - 1,by omega⟩;rfl) ?_
 rw[show ([[gi (-1)]]:List (List V)).take n=List.replicate 1 [gi (-1)] by obtain⟨q,rfl⟩:∃ q,n=q+1:=⟨n - 1,by omega⟩;simp,
  show dR (List.replicate n [gi 0]) 0 (List.replicate 1 [gi (-1)])=List.replicate 1 [gi (-1)] ++ List.replicate (n - 1) [gi 0] by
   have:=s7 (List.replicate 1 [gi (-1)]) [] (List.replicate n [gi 0]) (by simp;omega)
   simpa using this,Um]
 simp(disch:=omega)only[↓wr,seval,wq]
 rw[set_set]
 refine aY.intro (λk T H'=>∃ c:Nat,1<=c/\c+k=n/\H' b=.arr 1 (List.replicate c [gi (-1)] ++ List.replicate (n - c) [gi 0])/\(∀ id,H id≠.dead->H' id=H id)/\T 7=.sl b 0 n 1/\T 8=gi c) (n - 1) ⟨1,by omega,by omega,by simp[View.set],λid a=>?_,rfl,rfl⟩ ?_
 .have:¬ id=b:=by rintro rfl;exact a g
  simp[View.set,this]
 rintro k T H' ⟨c,c1,B,hH,e,t7,t8⟩
 simp(disch:=omega)only[↓wr,seval,wq,fR,t7,t8]
 apply ai.dec<;>intro y
 .simp(disch:=omega)only[↓wr,seval,wq,t7,t8,Gr (id:=b) (off:=0) (k:=n) (m:=c) (by omega),GF (id:=b) (off:=0) (k:=n) (m:=c) (by omega)]
  have o:bA H' (.sl b 0 c 1)=some (List.replicate c [gi (-1)],[b]):=by
   obtain⟨q,rfl⟩:∃ q,c=q+1:=⟨c - 1,by omega⟩
   simp only[bA,hH]
   rw[St (by simp)]
   simp
  obtain⟨d,t⟩:∃ d,d=min (n - c) c:=⟨_,rfl⟩
  refine HX (id:=b) (off:=c) (len:=n - c) (sz:=1) (bytes:=8) (z:=[gi 0]) (s:=1) (es:=List.replicate c [gi (-1)] ++ List.replicate (n - c) [gi 0]) (xs:=List.replicate c [gi (-1)]) (rd:=[b]) (by kernel_rfl) (by simp(disch:=omega)only[↓wr,seval,wq]) (by simp(disch:=omega)only[↓wr,seval,wq];exact o) hH (by simp) (by simp[aE]) ?_ ?_
  .rw[List.take_replicate,<-t]
   obtain⟨q,A⟩:∃ q,d=q+1:=⟨d - 1,by omega⟩
   rw[A];rfl
  have u:=s7 (List.replicate d [gi (-1)]) (List.replicate c [gi (-1)]) (List.replicate (n - c) [gi 0]) (by simp;omega)
  rw[Um] at u
  rw[List.take_replicate,<-t,u,Um]
  simp(disch:=omega)only[↓wr,seval,wq,t7,t8]
  refine⟨n - (c+d),by omega,c+d,by omega,by omega,?_,λid a=>?_,rfl⟩
  .simp[View.set,List.drop_replicate,<-List.replicate_append_replicate,show n - c - d=n - (c+d) by omega]
  .have:¬ id=b:=by rintro rfl;exact a g
   simp[View.set,this];exact e id a
 .simp(disch:=omega)only[↓wr,seval,wq,t7]
  obtain rfl:c=n:=by omega
  refine⟨.inr ⟨b,by simp,by rw[hH];simp[bC]⟩,λid a=>⟨e id a,?_⟩⟩
  simp only[owner,ne_eq,Sq]
  rintro rfl;exact a g
section
variable {g:af} {a:List aL}
def lN (g:af) (l:List bt):Prop:=∀ x∈l,∀ s∈x.ah ++ x.be,eo g s=true
theorem L2 (b:g.cZ) {r:Int} (hr : -1<=r/\r < g.rules.length):∀ s∈bB g r,eo g s=true:=by
 unfold bB
 split
 .intro s a
  simp at a
  subst a
  have:=b.nN;have:=b.start
  unfold eo
  rw[Sr (by omega)]
  simp only[SN];omega
 .intro s a
  have c:g.rules[r.toNat]?=some (bH g r):=by unfold bH;exact getD_some (by omega)
  exact b.sym _ (SK c) s a
theorem El (a:g.cZ) {x:aD} (b:b6 g x):∀ s∈dA g x,eo g s=true:=λs c=>L2 a b.1 s (List.mem_of_mem_drop c)
theorem lN.met {l:List bt} (h:lN g l) {x:bt} (b:∀ s∈x.ah ++ x.be,eo g s=true):lN g (gH l x):=by
 unfold gH
 split
 .exact h
 .intro y a
  rcases SS.1 a with a | a
  .exact h y a
  .simp at a;subst a;exact b
theorem lN.QP {x:bt} (a:∀ s∈x.ah ++ (fI g x.it ++ x.be),eo g s=true) (s:Int):∀ (k:Nat) (l:List bt),lN g l->lN g (iK g x s k l)
 | 0,_,h=>h
 | k+1,l,h=>by
  rw[iK]
  split
  .exact(lN.QP a s k l h).met a
  .exact lN.QP a s k l h
theorem lN.leave (f:dO g a) {l:List bt} (j:iG g a l) (h:lN g l) {x:bt} (i:x∈l):lN g (fc g a l x):=by
 unfold fc
 split
 .rename_i k
  have m:bo g x.it=((bo g x.it).1,true):=by rw[<-k]
  have e:=j.nd x i
  have hH:=f.has e.lt e.it
  obtain⟨f1,_⟩:=mc hH m
  have d:=El f.gM hH
  rw[f1] at d
  have c:=h x i
  refine lN.QP (λs b=>?_) _ _ _ (h.met λs b=>?_)
  .simp only[SS] at b c
   rcases b with b | b | b
   .exact c s (.inl b)
   .exact d s (SQ _ b)
   .exact c s (.inr b)
  .simp only[SS,Tz] at b c
   rcases b with (b | rfl) | b
   .exact c s (.inl b)
   .exact d _ (Ul ..)
   .exact c s (.inr b)
 .exact h
theorem Ad (b:dO g a):∀ (f i:Nat) (l:List bt),iG g a l->lN g l->lN g (gC g a f i l)
 | 0,_,_,_,h=>h
 | f+1,i,l,c,h=>by
  rw[gC]
  cases e:l[i]? with
  | none=>exact h
  | some x=>exact Ad b f (i+1) _ (uA b c e).1 (h.leave b c (SK e))
theorem LJ (b:dO g a):lN g (bW g a):=Ad b _ _ _ (vp b) λx c s d=>by
 simp[j7] at c
 subst c
 simp at d
theorem rT (a:g.cZ) {s:Int} (h:eo g s=true):bK s:=by
 have:=a.ao;have:=a.aj
 unfold eo at h
 unfold bK
 split at h <;> simp only[SN] at h <;> omega
theorem sj (c:dO g a) (d:a.length<=300) {i:Nat} (hi:i < a.length):b6 g (cK (bW g a) i).it/\(cK (bW g a) i).ah.length<=86100/\(cK (bW g a) i).be.length<=516600/\(dA g (cK (bW g a) i).it).length<=6 /\
  (∀ s∈(cK (bW g a) i).ah,bK s)/\(∀ s∈(cK (bW g a) i).ah ++ (dA g (cK (bW g a) i).it ++ (cK (bW g a) i).be),bK s):=by
 obtain⟨f1,f2,f3⟩:=zg c d hi
 obtain⟨h,_,_⟩:=uP c d
 have hH:=c.has f3.lt f3.it
 obtain⟨j,k⟩:=List.getElem?_of_mem f1
 have m:=h.len j _ k
 have b:=h.short c d
 have l:=(SH.1 k).1
 have e:=LJ c _ f1
 have f:=El c.gM hH
 refine⟨hH,by omega,by omega,?_,λs b=>rT c.gM (e s (SS.2 (.inl b))),λs b=>?_⟩
 .have:=dy c.gM hH.1
  unfold dA
  simp;omega
 .rcases SS.1 b with b | b
  .exact rT c.gM (e s (SS.2 (.inl b)))
  .rcases SS.1 b with b | b
   .exact rT c.gM (f s b)
   .exact rT c.gM (e s (SS.2 (.inr b)))
end
def so:SC :=
 ae [ae [ab [aa 21 6,aa 22 5,ka 23 22,al 24 6 23,ak 25 24,aP 26 25,aU 27 .lss 21 26],cb 27 (.exit 0)],.block 1 (ab [aa 30 5,aa 31 5,ka 32 31,al 33 6 32,ak 34 33,aa 35 6,aZ 36 5 34 35,ba 37 5 36,bg 38 126 [30,37]]),ab [aa 28 6,aF 29 .add 28 1,aa 6 29]]
def vD:SF:=⟨ae [ab [cG 2 0,((some 4),.op (.eJ (.val (.val (.pointer none)))))],.region true [⟨none,[ba 7 4 2,aa 8 1,((some 9),.op (.o8)),((some 10),.op (.bN 1 1 [(.val (.int .i64 0))] [(0,(.val (.val (.int .i64 (-1)))))])),aa 11 1,aP 12 11,bg 13 115 [10,12],((some 14),.op (.build [(.emp 1),(.emp 1),(.emp 1),(.val (.int .i64 0)),(.emp 1),(.val (.map none)),(.emp 1),(.emp 1)] [(0,4,(.tmp 7)),(4,1,(.tmp 8)),(5,1,(.tmp 9)),(7,1,(.tmp 13))])),((some 15),.op (.box (.tmp 14))),aa 5 15]⟩],ab [aa 16 5,((some 17),.op (.build [(.val (.int .i64 0)),(.val (.int .i64 0))] [(0,1,(.val (.val (.int .i64 (-1)))))])),((some 18),.op (.build [(.val (.int .i64 0)),(.val (.int .i64 0)),(.val (.int .i64 0))] [(0,1,(.val (.val (.int .i64 0)))),(1,2,(.tmp 17))])),((some 19),.op (.build [(.val (.int .i64 0)),(.val (.int .i64 0)),(.val (.int .i64 0)),(.emp 1),(.emp 1)] [(0,3,(.tmp 18))])),bg 20 125 [16,19]],ae [ab [aR 6 0],cd 0 so],ab [aa 39 5,aa 4 39],.ret],
 [.tmp 4],40⟩
theorem y6:aI Tryz.prog 61 [2]=some vD:=by kernel_rfl
theorem Gk (a:List aL):ep a []=List.replicate a.length (-1):=by
 unfold ep
 apply List.ext_getElem?
 intro i
 rw[Ss,Uc]
 by_cases h:i < a.length
 .rw[TR h,St h];rfl
 .rw[Te (by simpa using h),Sr h];rfl
theorem ym {g:af} {a:List aL} {f i:Nat} {l:List bt} (h:l.length<=i):gC g a f i l=l:=by
 cases f with
 | zero=>rfl
 | succ f=>rw[gC,Te h]
theorem IF (g:af) (X:g.Ok) (a:List aL) (x:dO g a) (F:a.length<=300) (H:View) :
  au Tryz.prog 61 [.agg (ag g),bJ a] H λr H'=>∃ b,r=.ptr b 0 0/\eF H' b g a (bW g a) 100000000 []:=by
 have z:=x.pos
 have G:bZ (bJ a)=some a.length:=by simp[bJ,bZ]
 have d:aE (bJ a)=true/\V.cells (bJ a)=[bJ a]:=⟨rfl,rfl⟩
 refine au.of mixed y6 ?_
 simp(disch:=omega)only[↓wr,seval,wq,vD,ag,encS,G,d.1,d.2]
 intro o Y O A
 obtain⟨I,A⟩:=bR A (by simp)
 refine av.BJ (IY a.length (by omega) O _ (by simp[View.set])) ?_
 intro r P hr p
 have s:P o=.map [] 0:=by
  have e:¬ o=O:=λe=>I e.symm
  rw[(p o (by simp[View.set,e])).1]
  simp[View.set,e]
 simp(disch:=omega)only[↓wr,seval,wq,hr.cells,hr.eL,d.1,d.2]
 intro j f
 have J:¬ o=j:=by rintro rfl;rw[s] at f;simp at f
 have Q:=(((bc.nil.Bp hr p).new f 8 [po g a o (.emp 1) r]).emp (k:=1) (sz:=5)).perm (.cons _ (.swap _ _ _))
 have R:eF (P.set j (.arr 8 [po g a o (.emp 1) r])) j g a [] 0 []:=by
  refine⟨o,.emp 1,r,[],[],0,?_,by simp[View.set,J,s,cP],⟨by simp,by simp⟩,λk=>⟨0,rfl,Sy _,by simp⟩,rfl,by simp⟩
  rw[Gk]
  exact Q
 try simp(disch:=omega)only[↓wr,seval,wq]
 have hm:=B3 g a j [] 0 (by omega) (by simp) ⟨⟨0,⟨-1,0⟩,[],[]⟩,.emp 1,.emp 1⟩ ⟨.inr ⟨rfl,rfl⟩,.inr ⟨rfl,rfl⟩⟩ z [] _ R
 refine av.dW (hm.mono ?_)
 rintro _ H4 U
 simp(disch:=omega)only[↓wr,seval,wq]
 refine aY.up 86101 (λi T H'=>∃ (l:List bt),i<=l.length/\iG g a l/\gC g a (90000 - i) i l=bW g a/\eF H' j g a l (1+41 * i) []/\T 5=.ptr j 0 0/\T 6=gi i) ⟨j7,by simp,vp x,rfl,U,rfl,rfl⟩ ?_
 clear U R Q hm s f hr p
 rintro i k T Z hk ⟨l,an,h,u,K,t5,t6⟩
 obtain⟨q,us,uf,S,m,c,w⟩:=id K
 have W:=w.own.is 2 rfl (by simp)
 have L:S.length=l.length:=by rw[<-w.is,Sv]
 have M:bZ us=some l.length:=by rw[(w.own.own 0 rfl).len,Sv,L]
 simp(disch:=omega)only[↓wr,seval,wq,so,t5,t6,W,M]
 apply ai.dec<;>intro hc
 .have N:S[i]?=some (S[i]'(by omega)):=Sn (by omega)
  have B:=Sx (show i < S.length by omega)
  generalize S[i]'(by omega)=y at N B
  have v:l[i]?=some y.n:=by rw[<-w.is,Ss,N];rfl
  obtain⟨n,C,hH⟩:=(w.own.own 0 rfl).sl (by simp;omega)
  rw[Sv] at C
  have D:(S.map df).getD i []=df y:=by simp[Sm,N]
  have hs:=h.short x F
  have E:=Nu g X a x F j l h y (w.ok y B) i v (1+41 * i) (by omega) [] Z K
  simp only[df] at E D
  simp(disch:=omega)only[↓wr,seval,wq,t5,t6,W,C,hH,D]
  refine⟨by omega,by first | omega | (simp;omega),?_⟩
  refine av.dW (E.mono ?_)
  rintro _ H6 w6
  simp(disch:=omega)only[↓wr,seval,wq,t5,t6]
  obtain⟨l1,⟨t,ht⟩,_⟩:=uA x h v
  refine aH hk (by omega) ⟨fc g a l y.n,by rw[ht,SV];omega,l1,?_,w6.up (B':=1+41 * (i+1)) (by omega),t5,rfl⟩
  rw[<-u,show 90000 - i=90000 - (i+1)+1 by omega,gC,v]
 .simp(disch:=omega)only[↓wr,seval,wq,t5]
  rw[ym (by omega)] at u
  subst u
  have hs:=h.short x F
  exact⟨j,rfl,K.up (B':=100000000) (by omega)⟩
def vS (x:(List Int × List Int) × Int):V:=.aS [encI x.1.1,encI x.1.2,gi x.2]
def A8 (b:uy):List V:=[gi b.state,gi b.len,encI b.word]
def DO (x:List uy × Int):V:=.aS [.aT (x.1.map A8),gi x.2]
noncomputable def jn (g:af) (s:Int):(List Int × List Int) × Int :=
 if (bI g).2≠0 then (([],[]),(bI g).2) else if s < 0∨((bI g).1.length:Int)<=s then (([],[]),11) else (eW g (bI g).1 s.toNat,0)
def eR (g:af) (a:List aL):Nat->List uy × Int
 | 0=>([],0)
 | i+1=>if (eR g a i).2≠0 then eR g a i else if (fG g ((eW g a i).1 ++ (eW g a i).2)).2≠0 then ([],(fG g ((eW g a i).1 ++ (eW g a i).2)).2) else ((eR g a i).1 ++ [Jl g a i],0)
noncomputable def tM (g:af):List uy × Int:=if (bI g).2≠0 then ([],(bI g).2) else eR g (bI g).1 (bI g).1.length
theorem Hq {h:az} {u v:V} {x y:List Int} (hu:xH u x) (a:Fr h v (encI y)):Fr h (.aS [u,v,gi 0]) (vS ((x,y),0)):=.aS _ _ rfl λi hi=>by
 match i,hi with
 | 0,_=>exact hu.j4 h rfl
 | 1,_=>exact a
 | 2,_=>exact .tree _ (.val _)
theorem oS {h:az} {e:Int} : Fr h (.aS [.emp 1,.emp 1,gi e]) (vS (([],[]),e)):=.aS _ _ rfl λi hi=>by
 match i,hi with
 | 0,_=>exact .emp 1
 | 1,_=>exact .emp 1
 | 2,_=>exact .tree _ (.val _)
theorem Fu (b:uy):∀ v∈A8 b,Tree v:=by
 intro v a
 simp[A8] at a
 rcases a with rfl | rfl | rfl
 .exact .val _
 .exact .val _
 .exact bU _
theorem yy {g:af} {a:List aL} {i:Nat} (h:(eR g a i).2≠0):∀ d,eR g a (i+d)=eR g a i
 | 0=>rfl
 | d+1=>by
  have b:=yy h d
  rw[<-TY,eR,b,St h]
theorem J7 {g:af} {a:List aL} {i n:Nat} (h:(eR g a i).2≠0) (hi:i<=n):eR g a n=eR g a i:=by
 have:=yy h (n - i)
 rwa [show i+(n - i)=n by omega] at this
theorem AO {g:af} {a:List aL} : ∀ i,(eR g a i).1.length<=i
 | 0=>by simp[eR]
 | i+1=>by
  have b:=AO (g:=g) (a:=a) i
  rw[eR]
  split
  .omega
  .split
   .simp
   .simp;omega
def om:SF:=⟨ae [ab [bQ 4 1,bQ 5 1],ab [aa 7 0,ka 8 7,al 9 6 8,ak 10 9,aa 11 0,ka 12 11,al 13 7 12,ak 14 13,aa 15 1,aZ 16 1 14 15,ak 17 16,aZ 18 5 10 17,ba 19 5 18,((some 6),.op (.alloc [(.val (.int .i64 0)),(.val (.int .i64 0)),(.val (.int .i64 0)),(.emp 1),(.emp 1)])),cL 5 6 19],.region true [⟨none,[al 20 3 6,ak 21 20,aa 22 0,al 23 0 6,al 24 1 23,ba 25 2 24,bg 26 127 [22,25],al 27 4 6,ak 28 27,((some 29),.op (.bN 2 1 [(.emp 1)] [(0,(.tmp 26)),(1,(.tmp 28))])),bg 30 68 [29],aa 4 21,aa 5 30]⟩],.ret],
 [.tmp 4,.tmp 5],31⟩
theorem sB:aI Tryz.prog 62 []=some om:=by kernel_rfl
def xk:SF:=⟨ae [ab [cG 2 0,bQ 4 1,bQ 5 1,aR 6 0],ab [ba 12 4 2,bg 13 60 [12],aa 11 13,dz 14 0 11,dz 15 1 11,aa 7 14,aa 8 15],.block 0 (ae [ab [aa 17 8,aF 18 .neq 17 0,aa 16 18],.cond (.tmp 16) (ae [ab [aa 19 8,bQ 4 1,bQ 5 1,aa 6 19],.ret]) (ae [.region false [⟨none,[aa 21 1,aF 22 .lss 21 0,aa 23 22]⟩,⟨(some (23,false)),[aa 24 1,aa 25 7,aP 26 25,aU 27 .geq 24 26]⟩,⟨none,[cR 28 23 27,aa 20 28]⟩],bf 20 (ae [ab [bQ 4 1,bQ 5 1,aR 6 11],.ret])])]),ab [ba 30 4 2,aa 31 7,bg 32 61 [30,31],aa 33 1,bg 34 62 [32,33],aa 29 34,dz 35 0 29,dz 36 1 29,aa 9 35,aa 10 36],ab [aa 37 9,aa 38 10,aa 4 37,aa 5 38,aR 6 0],.ret],
 [.tmp 4,.tmp 5,.tmp 6],39⟩
theorem Bf:aI Tryz.prog 24 [2]=some xk:=by kernel_rfl
def qT:SC :=
 ae [ab [aU 28 .lss 27 26],cb 28 (.exit 0),.block 1 (ae [ab [aa 29 27,aa 8 29],ab [aa 31 6,aa 32 8,bg 33 62 [31,32],aa 30 33,dz 34 0 30,dz 35 1 30,aa 9 34,aa 10 35],.region true [⟨none,[ba 37 4 1,aa 38 9,aa 39 10,((some 40),.op (.bN 2 1 [(.emp 1)] [(0,(.tmp 38)),(1,(.tmp 39))])),bg 41 68 [40],bg 42 67 [37,41],aa 36 42,dz 43 0 36,dz 44 1 36,aa 11 43,aa 12 44]⟩],ae [ab [aa 45 12,aF 46 .neq 45 0],bf 46 (ae [ab [aa 47 12,bQ 2 1,aa 3 47],.ret])],ab [ba 49 4 1,aa 50 9,bg 51 67 [49,50],aa 48 51,dz 52 0 48,dz 53 1 48,aa 13 52,aa 12 53],ae [ab [aa 54 12,aF 55 .neq 54 0],bf 55 (ae [ab [aa 56 12,bQ 2 1,aa 3 56],.ret])],ab [aa 57 7,aa 58 8,aa 59 13,aP 60 59,aa 61 11,((some 62),.op (.build [(.val (.int .i64 0)),(.val (.int .i64 0)),(.emp 1)] [(0,1,(.tmp 58)),(1,1,(.tmp 60)),(2,1,(.tmp 61))])),((some 63),.op (.bN 1 3 [(.val (.int .i64 0)),(.val (.int .i64 0)),(.emp 1)] [(0,(.tmp 62))])),gD 64 3 40 57 63,aa 7 64]]),ab [aF 65 .add 27 1,aa 27 65]]
def tI:SF:=⟨ae [ab [cG 1 0,bQ 2 1,aR 3 0],ab [ba 15 4 1,bg 16 60 [15],aa 14 16,dz 17 0 14,dz 18 1 14,aa 4 17,aa 5 18],ae [ab [aa 19 5,aF 20 .neq 19 0],bf 20 (ae [ab [aa 21 5,bQ 2 1,aa 3 21],.ret])],ab [ba 22 4 1,aa 23 4,bg 24 61 [22,23],aa 6 24],ab [bQ 7 1],ae [ab [aa 25 4,aP 26 25,aR 27 0],cd 0 qT],ab [aa 66 7,aa 2 66,aR 3 0],.ret],
 [.tmp 2,.tmp 3],67⟩
theorem yg:aI Tryz.prog 28 [1]=some tI:=by kernel_rfl
theorem K0 (g:af) (hg:g.Ok) (a:List aL) (N:dO g a) (h3:a.length<=300) (b:Nat) (B:Nat) (K:List dG) (i:Nat) (hi:i < a.length) (H:View) (hW:eF H b g a (bW g a) B K) :
  au Tryz.prog 62 [.ptr b 0 0,gi i] H λr H'=>(∃ v,xH v (eW g a i).1/\r=.aS [v,encI (eW g a i).2])/\∀ id,H id≠.dead->H' id=H id:=by
 have hf:=N.gM
 have aq:=iA hf
 obtain⟨f1,f2,f3⟩:=zg N h3 hi
 obtain⟨p1,p2,p3,p4,_,_⟩:=sj N h3 hi
 obtain⟨k,k1,k2,k3⟩:=yp i (bW g a) 0 ⟨_,f1,f2⟩
 rw[Tt] at k1
 have O:eW g a i=((cK (bW g a) i).ah,dA g (cK (bW g a) i).it ++ (cK (bW g a) i).be):=rfl
 rw[O]
 obtain⟨q,us,uf,S,m,c,w⟩:=hW
 have ar:S.length=(bW g a).length:=by rw[<-w.is,Sv]
 have P:=w.own.is 2 rfl (by simp)
 have Q:S[k]?=some (S[k]'(by omega)):=Sn (by omega)
 have A:=Sx (show k < S.length by omega)
 generalize S[k]'(by omega)=y at Q A
 have R:y.n=cK (bW g a) i:=by
  have:(S.map dN.n)[k]?=some y.n:=by rw[Ss,Q];rfl
  rw[w.is,k3] at this
  simpa using this.symm
 have j:=w.ok y A
 rw[<-R] at p1 p2 p3 p4 ⊢
 obtain⟨n,C,hH⟩:=(w.own.own 0 rfl).sl (by simp;omega)
 rw[Sv] at C
 have D:(S.map df).getD k []=df y:=by simp[Sm,Q]
 have p:(ep a (bW g a)).length=a.length:=by simp[ep]
 obtain⟨nf,E,hF⟩:=(w.own.own 1 rfl).sl (by simp[p];omega)
 rw[Sv,p] at E
 have T:(bC (ep a (bW g a))).getD i []=[gi k]:=by
  rw[bC,Sm,Ss,ep,Ss,TR hi]
  simp[k1]
 obtain⟨⟨U,W,a1⟩,⟨F,G,a6⟩⟩:=And.intro j.a.eL j.b.eL
 have X:=qG (dA g y.n.it) y.n.be (by omega)
 simp only[df] at D
 refine au.of mixed sB ?_
 simp(disch:=omega)only[↓wr,seval,wq,om,P,C,E,hF,T,hH,D,U,W,F,G]
 refine⟨hi,by rw[p];exact hi,by omega,by omega,λl s=>?_⟩
 rw[set_set]
 have Y:¬ b=l:=by rintro rfl;rw[P] at s;simp at s
 have I:(H.set l (.arr 5 [[gi y.n.st,gi y.n.it.aw,gi y.n.it.dot,y.a,y.b]])) b=.arr 8 [po g a q us uf]:=by simp only[View.set,Sr Y,P]
 have t:(H.set l (.arr 5 [[gi y.n.st,gi y.n.it.aw,gi y.n.it.dot,y.a,y.b]])) l=.arr 5 [[gi y.n.st,gi y.n.it.aw,gi y.n.it.dot,y.a,y.b]]:=by simp only[View.set,if_true]
 have f:∀ id,H id≠.dead->(H.set l (.arr 5 [[gi y.n.st,gi y.n.it.aw,gi y.n.it.dot,y.a,y.b]])) id=H id:=λid e=>by
  have:¬ id=l:=by rintro rfl;exact e s
  simp only[View.set,Sr this]
 generalize View.set H l (.arr 5 [[gi y.n.st,gi y.n.it.aw,gi y.n.it.dot,y.a,y.b]])=H1 at I t f ⊢
 have hr:=Hs g (by unfold bK;omega) a q us uf b H1 I y.n.it p1
 simp only[bq] at hr
 refine av.still hr (λr H' h id e=>(h.2 id e).1) ?_
 rintro u M ⟨hu,J⟩
 have L:aE u=true/\V.cells u=[u]:=by
  rcases hu with rfl | ⟨n,x,d,rfl,_⟩ <;> exact⟨rfl,rfl⟩
 have Z:M l=.arr 5 [[gi y.n.st,gi y.n.it.aw,gi y.n.it.dot,y.a,y.b]]:=by rw[(J l (by rw[t];simp)).1];exact t
 simp(disch:=omega)only[↓wr,seval,wq,Z,L.1,L.2,F,G]
 intro n9 z
 have an:∀ {o:dF} (id:Nat),M id≠.dead->(M.set n9 o) id=M id:=λ{o} id e=>by
  have:¬ id=n9:=by rintro rfl;exact e z
  simp only[View.set,Sr this]
 refine av.lD X (by kernel_rfl) ⟨cg.two (by simp only[View.set,if_true]) ((hu.keep λid e=>an id e).j4) j.b.j4,trivial⟩ ?_
 simp(disch:=omega)only[↓wr,seval,wq]
 refine⟨⟨y.a,j.a,rfl⟩,λid e=>?_⟩
 have h1:=f id e
 have h2:=(J id (by rw[h1];exact e)).1
 have e9:¬ id=n9:=by rintro rfl;rw[h2,h1] at z;exact e z
 rw[Sr e9,h2,h1]
theorem eF.app {H:View} {b:Nat} {g:af} {a:List aL} {l:List bt} {B:Nat} {u:V} {sz:Nat} {es:List (List V)} (h:eF H b g a l B [(u,sz,es)]):aJ H u sz es/\∀ d H' es',aJ H' d sz es'->Left H H' u d->eF H' b g a l B [(d,sz,es')]:=by
 obtain⟨q,us,f,S,m,c,w⟩:=h
 refine⟨w.own.own 3 rfl,λd H' es' i e=>⟨q,us,f,S,m,c,?_,e.map (w.own.own 3 rfl) w.map,w.born,w.seen,w.is,w.ok⟩⟩
 exact((w.own.perm zR).left i e).perm zR.symm
theorem zk (g:af) (i:Int):∀ v∈[V.agg (ag g),gi i],Tree v:=by
 intro v a;simp at a
 rcases a with rfl | rfl
 .exact cn _ (cM g)
 .exact .val _
theorem BL (g:af) (f:g.Ok) (j:g.Small) (s:Int):ay Tryz.prog 24 [.agg (ag g),gi s] (vS (jn g s)):=by
 refine ay.of (zk g s) ?_
 have l:=(Cw g f j).pure
 have d:bZ (bJ (bI g).1)=some (bI g).1.length:=by simp[bJ,bZ]
 refine au.of mixed Bf ?_
 simp only[ag,encS] at l
 simp(disch:=omega)only[↓wr,seval,wq,xk,ag,encS]
 refine av.pure l ?_
 simp(disch:=omega)only[↓wr,seval,wq]
 unfold jn
 apply ai.ne<;>intro h
 .rw[St h]
  simp(disch:=omega)only[↓wr,seval,wq]
  intro k _
  exact oS
 rw[Sr (by omega)]
 obtain⟨_,m,c⟩:=xX h
 generalize (bI g).1=a at *
 simp(disch:=omega)only[↓wr,seval,wq,d]
 apply ai.dec<;>intro h1
 .rw[St (by omega)]
  simp(disch:=omega)only[↓wr,seval,wq]
  intro k _
  exact oS
 simp(disch:=omega)only[↓wr,seval,wq,d]
 apply ai.dec<;>intro n
 .rw[St (by omega)]
  simp(disch:=omega)only[↓wr,seval,wq]
  intro k _
  exact oS
 rw[Sr (by omega)]
 obtain⟨i,rfl⟩:∃ i:Nat,s=i:=⟨s.toNat,by omega⟩
 have e:=IF g f a m c (λ_=>.dead)
 simp only[ag,encS] at e
 simp(disch:=omega)only[↓wr,seval,wq,ag,encS]
 refine av.dW (e.mono ?_)
 rintro _ H1 ⟨b,rfl,w⟩
 simp(disch:=omega)only[↓wr,seval,wq]
 refine av.dW ((K0 g f a m c b _ _ i (by omega) H1 w).mono ?_)
 rintro _ p ⟨⟨v,o,rfl⟩,_⟩
 simp(disch:=omega)only[↓wr,seval,wq]
 intro k _
 exact Hq o (.tree _ (bU _))
theorem Cq (g:af) (m:g.Ok) (d:g.Small):ay Tryz.prog 28 [.agg (ag g)] (DO (tM g)):=by
 refine ay.of (fa g) ?_
 have O:=(Cw g m d).pure
 have z:bZ (bJ (bI g).1)=some (bI g).1.length:=by simp[bJ,bZ]
 refine au.of mixed yg ?_
 simp only[ag,encS] at O
 simp(disch:=omega)only[↓wr,seval,wq,tI,ag,encS]
 refine av.pure O ?_
 simp(disch:=omega)only[↓wr,seval,wq]
 unfold tM
 apply ai.ne<;>intro h
 .rw[St h]
  simp(disch:=omega)only[↓wr,seval,wq]
  intro A _
  exact(mh (.emp 1)).QS
 rw[Sr (by omega)]
 obtain⟨_,B,c⟩:=xX h
 generalize (bI g).1=a at *
 have p:=IF g m a B c (λ_=>.dead)
 simp only[ag,encS] at p
 simp(disch:=omega)only[↓wr,seval,wq,ag,encS]
 refine av.dW (p.mono ?_)
 rintro _ H1 ⟨b,rfl,w⟩
 simp(disch:=omega)only[↓wr,seval,wq,z]
 refine aY.up a.length (λi T H'=>∃ (u:V),(eR g a i).2=0/\eF H' b g a (bW g a) 100000000 [(u,3,(eR g a i).1.map A8)]/\T 1=.aG (ag g) 0/\T 6=.ptr b 0 0/\T 7=u/\T 26=gi a.length/\T 27=gi i) ⟨.emp 1,rfl,w.add .nil .emp,rfl,rfl,rfl,rfl,rfl⟩ ?_
 clear w
 rintro i k T H hk ⟨u,he,w,t1,t6,t7,t26,t27⟩
 simp(disch:=omega)only[↓wr,seval,wq,qT,t1,t6,t7,t26,t27]
 apply ai.dec<;>intro R
 .have hi:i < a.length:=by omega
  obtain⟨p1,S,p3,p4,U,W⟩:=sj B c hi
  have C:eW g a i=((cK (bW g a) i).ah,dA g (cK (bW g a) i).it ++ (cK (bW g a) i).be):=rfl
  have P:(eW g a i).1.length<=86100/\(eW g a i).2.length<=600000/\(∀ s∈(eW g a i).1,bK s)/\(∀ s∈(eW g a i).1 ++ (eW g a i).2,bK s):=by
   rw[C]
   exact⟨S,by simp only[SV];omega,U,W⟩
  obtain⟨P,q2,X,Y⟩:=P
  have hw:=K0 g m a B c b _ _ i hi H w
  have l:eR g a (i+1)=if (fG g ((eW g a i).1 ++ (eW g a i).2)).2≠0 then ([],(fG g ((eW g a i).1 ++ (eW g a i).2)).2) else ((eR g a i).1 ++ [Jl g a i],0):=by
   rw[eR,Sr (by rw[he];simp)]
  have D:Jl g a i=⟨i,((fG g (eW g a i).1).1.length:Int),(fG g ((eW g a i).1 ++ (eW g a i).2)).1⟩:=rfl
  have E:=λh=>(No (g:=g) (u:=(eW g a i).1) (v:=(eW g a i).2) h).1
  generalize (eW g a i).1=x at *
  generalize (eW g a i).2=y at *
  have F:=qG x y (by omega)
  have q:=(Eo g m d (x ++ y) (by simp;omega) Y).pure
  have r:=Eo g m d x (by omega) X
  simp only[ag,encS,JK] at q r
  have Z:=AO (g:=g) (a:=a) i
  generalize fG g (x ++ y)=G at *
  generalize fG g x=Q at *
  simp(disch:=omega)only[↓wr,seval,wq,t1,t6,t7,t26,t27]
  refine av.dW (hw.mono ?_)
  rintro _ H2 ⟨⟨v,f,rfl⟩,I⟩
  have w2:=w.stay I
  obtain⟨J,K,_⟩:=f.eL
  simp(disch:=omega)only[↓wr,seval,wq,t1,t6,t7,t26,t27,ag,encS,J,K]
  intro n9 L
  have w3:=w2.fresh (o:=.arr 1 [[v],[encI y]]) L
  try simp(disch:=omega)only[↓wr,seval,wq,t1,t6,t7,t26,t27]
  refine av.lD F (by kernel_rfl) ⟨cg.two (by simp only[View.set,if_true];rfl) f.j4 (.tree (bU y)),trivial⟩ ?_
  simp(disch:=omega)only[↓wr,seval,wq,t1,t6,t7,t26,t27,ag,encS]
  refine av.pure q ?_
  simp(disch:=omega)only[↓wr,seval,wq,t1,t6,t7,t26,t27,ag,encS]
  apply ai.ne<;>intro h1
  .rw[St h1] at l
   simp(disch:=omega)only[↓wr,seval,wq]
   intro A _
   rw[J7 (i:=i+1) (by rw[l];exact h1) (by omega),l]
   exact(mh (.emp 1)).QS
  rw[Sr (by omega)] at l
  have h2:Q.2=0:=E (by omega)
  simp(disch:=omega)only[↓wr,seval,wq,t1,t6,t7,t26,t27,ag,encS]
  refine av.lD r (by kernel_rfl) ⟨.tree (cn _ (cM g)),f.j4,trivial⟩ ?_
  simp(disch:=omega)only[↓wr,seval,wq,t1,t6,t7,t26,t27]
  refine ai.ne (λh=>absurd h2 h) (λ_=>?_)
  simp(disch:=omega)only[↓wr,seval,wq,t1,t6,t7,t26,t27,encI]
  intro n10 t
  have w4:=w3.fresh (n:=n10) (o:=.arr 3 [[gi i,gi Q.1.length,encI G.1]]) t
  obtain⟨M,wk⟩:=w4.app
  simp(disch:=omega)only[↓wr,seval,wq,bO]
  refine fE (es:=(eR g a i).1.map A8) M (by simp[aE]) (by unfold aC;simp;omega) (by unfold aC;simp;omega) ?_
  intro u5 H5 o5 l5
  have w5:=wk _ _ _ o5 l5
  simp(disch:=omega)only[↓wr,seval,wq,t1,t6,t26,t27]
  refine aH hk hi ⟨u5,by rw[l],?_,t1,t6,rfl,t26,rfl⟩
  rw[l,D,S0]
  exact w5
 .obtain rfl:i=a.length:=by omega
  simp(disch:=omega)only[↓wr,seval,wq,t7]
  intro A f
  obtain⟨M,_⟩:=w.app
  have N:=cg.own M (λe he v f=>by
   obtain⟨x,_,rfl⟩:=S5.1 he
   exact Fu x v f) A f
  unfold DO
  rw[he]
  exact .aS _ _ rfl λj hj=>by
   match j,hj with
   | 0,_=>exact N
   | 1,_=>exact .tree _ (.val _)
def l0:SC :=
 ae [ae [.region false [⟨none,[aa 63 12,al 64 2 2,ak 65 64,aP 66 65,aU 67 .lss 63 66,aa 68 67]⟩,⟨(some (68,true)),[aa 69 8,aF 70 .lss 69 0]⟩,⟨none,[eA 71 68 70]⟩],cb 71 (.exit 2)],.block 3 (ae [ab [al 74 2 2,ak 75 74,aa 76 12,aZ 77 3 75 76,al 78 0 77,ak 79 78,aa 80 8,((some 81),.op (.arith .sub (.val (.val (.int .i64 (-1)))) (.tmp 80))),aU 82 .eql 79 81],bf 82 (ab [aa 83 5,al 84 0 7,ak 85 84,aa 86 12,((some 87),.op (.build [(.val (.int .i64 0)),(.val (.int .i64 0))] [(0,1,(.tmp 86))])),al 88 3 7,ak 89 88,ba 90 4 2,al 91 1 7,al 92 0 91,ak 93 92,((some 94),.nM (.val (.fn 66 [] [])) [(.tmp 90),(.tmp 93)]),al 95 1 7,al 96 1 95,ak 97 96,aF 98 .add 97 1,((some 99),.op (.slice 1 (.tmp 94) (some (.tmp 98)) none)),al 100 4 7,ak 101 100,((some 102),.nM (.val (.fn 65 [] [])) [(.tmp 99),(.tmp 101)]),((some 103),.op (.build [(.val (.int .i64 0)),(.val (.int .i64 0)),(.val (.int .i64 0)),(.emp 1),(.emp 1)] [(0,1,(.tmp 85)),(1,2,(.tmp 87)),(3,1,(.tmp 89)),(4,1,(.tmp 102))])),bg 104 128 [83,103],aa 5 104])]),ab [aa 72 12,aF 73 .add 72 1,aa 12 73]]
def mo:SC :=
 ae [ae [ab [aa 16 6,aa 17 5,aP 18 17,aU 19 .lss 16 18],cb 19 (.exit 0)],.block 1 (ae [ab [aa 22 5,aa 23 6,aZ 24 5 22 23,ba 25 5 24,((some 7),.op (.alloc [(.val (.int .i64 0)),(.val (.int .i64 0)),(.val (.int .i64 0)),(.emp 1),(.emp 1)])),cL 5 7 25],ab [ba 27 4 2,al 28 1 7,ba 29 2 28,bg 30 100 [27,29],aa 26 30,dz 31 0 26,dz 32 1 26,aa 8 31,aa 9 32],ae [ab [aa 33 9,dp 34 33],bf 34 (.exit 1)],ab [aa 36 1,al 37 0 7,ak 38 37,aa 39 8,((some 40),.op (.bN 1 1 [(.val (.int .i64 0))] [(0,(.tmp 39))])),bg 41 33 [36,38,40],aa 35 41,dz 42 0 35,dz 43 1 35,aa 10 42,aa 11 43],ab [aa 44 5,aa 45 10,al 46 1 7,al 47 0 46,ak 48 47,al 49 1 7,al 50 1 49,ak 51 50,aF 52 .add 51 1,((some 53),.op (.build [(.val (.int .i64 0)),(.val (.int .i64 0))] [(0,1,(.tmp 48)),(1,1,(.tmp 52))])),al 54 3 7,ak 55 54,aa 56 8,((some 57),.op (.bN 1 1 [(.val (.int .i64 0))] [(0,(.tmp 56))])),((some 58),.nM (.val (.fn 65 [] [])) [(.tmp 55),(.tmp 57)]),al 59 4 7,ak 60 59,((some 61),.op (.build [(.val (.int .i64 0)),(.val (.int .i64 0)),(.val (.int .i64 0)),(.emp 1),(.emp 1)] [(0,1,(.tmp 45)),(1,2,(.tmp 53)),(3,1,(.tmp 58)),(4,1,(.tmp 60))])),bg 62 128 [44,61],aa 5 62],ab [aR 12 0],cd 2 l0]),ab [aa 20 6,aF 21 .add 20 1,aa 6 21]]
def oy:SF:=⟨ae [ab [cG 2 0,bQ 4 1],ab [((some 13),.op (.build [(.val (.int .i64 0)),(.val (.int .i64 0))] [(0,1,(.val (.val (.int .i64 (-1)))))])),((some 14),.op (.build [(.val (.int .i64 0)),(.val (.int .i64 0)),(.val (.int .i64 0)),(.emp 1),(.emp 1)] [(1,2,(.tmp 13))])),((some 15),.op (.bN 1 5 [(.val (.int .i64 0)),(.val (.int .i64 0)),(.val (.int .i64 0)),(.emp 1),(.emp 1)] [(0,(.tmp 14))])),aa 5 15],ae [ab [aR 6 0],cd 0 mo],ab [aa 105 5,aa 4 105],.ret],
 [.tmp 4],106⟩
theorem sQ:aI Tryz.prog 64 [2,200058,200094,200102]=some oy:=by kernel_rfl
theorem bc.one {H:View} {u:V} {sz:Nat} {es:List (List V)} (h:aJ H u sz es):bc H [(u,sz,es)]:=by
 refine⟨λx a=>by simp at a;subst a;exact h,?_⟩
 cases hu:owner u <;> simp[TG,hu]
theorem EX {H:View} {n:Nat} {y:Int} (h:H n=.arr 1 [[gi y]]):cg H (.sl n 0 1 1) (encI [y]) :=
 cg.own (sz:=1) (es:=bC [y]) (.inr ⟨n,rfl,h⟩) (by intro e he v a;simp at he;subst he;simp at a;subst a;exact .val _)
theorem J3 (g:af) (hg:g.Ok) (hr:ca g=true) (a:List aL) (p:dO g a) (h3:a.length<=300) (H:View) :
  au Tryz.prog 64 [.agg (ag g),bJ a] H λr H'=>∃ S:List dN,aJ H' r 5 (S.map df)/\S.map dN.n=bW g a/\∀ y∈S,y.Ok:=by
 have K:=p.gM
 have hT:=K.ao;have hN:=K.aj;have dm:=K.rules
 have ds:=iA K
 have B:aK a:=by unfold aK;omega
 have eb:aE (bJ a)=true/\V.cells (bJ a)=[bJ a]:=⟨rfl,rfl⟩
 have M:∀ (x:Int) (t:Bool),uL (.aS [gi x,gb t]):=λx t=>.aS _ λi hi=>by
  match i,hi with
  | 0,_=>exact⟨_,rfl⟩
  | 1,_=>exact⟨_,rfl⟩
 refine au.of mixed sQ ?_
 simp(disch:=omega)only[↓wr,seval,wq,oy,ag,encS]
 intro n0 b8
 refine aY.up 86101 (λi T H'=>∃ (l:List bt) (S:List dN) (u:V),i<=l.length/\iG g a l/\gC g a (90000 - i) i l=bW g a/\S.map dN.n=l/\(∀ y∈S,y.Ok)/\aJ H' u 5 (S.map df)/\T 1=bJ a/\T 2=.aG (ag g) 0/\T 5=u/\T 6=gi i)
  ⟨j7,[⟨⟨0,⟨-1,0⟩,[],[]⟩,.emp 1,.emp 1⟩],.sl n0 0 1 5,by simp,vp p,rfl,rfl,?_,.inr ⟨n0,rfl,by simp[View.set];rfl⟩,rfl,rfl,rfl,rfl⟩ ?_
 .intro y W
  simp at W
  subst W
  exact⟨.inr ⟨rfl,rfl⟩,.inr ⟨rfl,rfl⟩⟩
 clear b8
 rintro i kk T H1 N ⟨l,S,u,ee,v,O,Z,C,ho,t1,t2,t5,t6⟩
 have b9:S.length=l.length:=by rw[<-Z,Sv]
 have cc:bZ u=some l.length:=by rw[ho.len,Sv,b9]
 have eg:=v.short p h3
 simp(disch:=omega)only[↓wr,seval,wq,mo,t1,t2,t5,t6,cc]
 apply ai.dec<;>intro hc
 rotate_left
 .simp(disch:=omega)only[↓wr,seval,wq,t5]
  rw[ym (by omega)] at O
  exact⟨S,ho,by rw[Z,O],C⟩
 have W:S[i]?=some (S[i]'(by omega)):=Sn (by omega)
 have an:=Sx (show i < S.length by omega)
 generalize S[i]'(by omega)=s at W an
 have X:=C s an
 have hi:l[i]?=some s.n:=by rw[<-Z,Ss,W];rfl
 obtain⟨l1,⟨tl,cf⟩,_⟩:=uA p v hi
 have w:gC g a (90000 - (i+1)) (i+1) (fc g a l s.n)=bW g a:=by
  rw[<-O,show 90000 - i=90000 - (i+1)+1 by omega,gC,hi]
 have A:i+1<=(fc g a l s.n).length:=by rw[cf,SV];omega
 obtain⟨n,aq,hH⟩:=ho.sl (by simp;omega)
 rw[Sv] at aq
 have ar:(S.map df).getD i []=df s:=by simp[Sm,W]
 have j:=v.nd s.n (SK hi)
 have f:=p.has j.lt j.it
 obtain⟨⟨ei,dv⟩,ek,eH⟩:=And.intro f.1 f.2
 have e0:=v.len i s.n hi
 have e1:=j.small p
 obtain⟨⟨a1,a6,e2⟩,⟨a7,a8,e3⟩⟩:=And.intro X.a.eL X.b.eL
 have ch:DR g s.n.it=bo g s.n.it:=St (Ap.2 ⟨hr,f⟩)
 have D:=KA g hg s.n.it ⟨by unfold bK;omega,by unfold bK;omega⟩
 rw[ch] at D
 simp only[ag,encS,bq] at D
 simp only[df] at ar
 simp(disch:=omega)only[↓wr,seval,wq,t1,t2,t5,t6,aq,hH,ar,a1,a6,a7,a8,ag,encS]
 refine⟨by omega,by first | omega | (simp;omega),λn7 cj=>?_⟩
 rw[set_set]
 have Y:=(bc.one ho).new cj 5 [df s]
 have c:=Y.is 0 rfl (by simp)
 simp only[df] at c Y
 generalize View.set H1 n7 (.arr 5 [[gi s.n.st,gi s.n.it.aw,gi s.n.it.dot,s.a,s.b]])=H2 at Y c ⊢
 refine av.pure D ?_
 cases E:bo g s.n.it with
 | mk y t =>
 rw[E] at D
 cases t with
 | false =>
  have P:fc g a l s.n=l:=by unfold fc;rw[E];rfl
  simp(disch:=omega)only[↓wr,seval,wq,t1,t2,t5,t6]
  rw[P] at l1 w A
  exact aH N (by omega) ⟨l,S,u,A,l1,w,Z,C,Y.own 1 rfl,t1,t2,t5,rfl⟩
 | true =>
  obtain⟨f1,f2⟩:=mc f E
  have P:fc g a l s.n=iK g s.n y g.rules.length (gH l ⟨gS a s.n.st y,⟨s.n.it.aw,s.n.it.dot+1⟩,s.n.ah ++ [y],s.n.be⟩):=by
   unfold fc
   rw[E,St rfl]
  rw[P] at l1 w A
  obtain⟨s1,s2,s3,s4⟩:=p.step j.lt j.it E
  obtain⟨_,_,_,_,_,ck⟩:=p.gS s1
  have Q:eo g y=true:=rf K f E
  have cu : -100<=y/\y<=100:=by
   unfold eo at Q
   split at Q <;> simp at Q <;> omega
  have bd:(dA g s.n.it).length<=6:=by
   have:=dy K (r:=s.n.it.aw) ⟨by omega,by omega⟩
   unfold dA
   simp;omega
  have ea:(fI g s.n.it).length<=6:=by
   rw[f1] at bd
   simp only[SA] at bd
   omega
  obtain⟨m1,m2,m3⟩:=zA p v (j.move p E) (by simp only[SV,SA,SZ];omega) (by simp only;omega)
  have hle:l.length<=(gH l ⟨gS a s.n.st y,⟨s.n.it.aw,s.n.it.dot+1⟩,s.n.ah ++ [y],s.n.be⟩).length:=by obtain⟨t,ht⟩:=m2;rw[ht];simp
  have cv:=λk hk=>AH p j E k _ hk m1 (by omega) (by omega)
  have bl:=LO a B (p.OU h3) s.n.st [y] (by unfold aK;simp)
  rw[ck] at bl
  have cA:=wT s.n.ah [y] (by simp;omega)
  have cC:=wT (fI g s.n.it) s.n.be (by omega)
  have bn:=AP g (by unfold bK;omega) s.n.it.aw ⟨by omega,by omega⟩
  have cN:cz 1 (encI (bB g s.n.it.aw)) (some (gi (s.n.it.dot+1))) none=some (encI (fI g s.n.it),.none,[]):=by
   obtain⟨d,hd,cS,cV⟩:=Hz f E
   rw[hd]
   have hlen:d+1<=(bB g s.n.it.aw).length:=by
    have:=congrArg List.length cS
    simp at this;omega
   have:=qB (l:=bB g s.n.it.aw) (k:=d+1) hlen
   rw[cV] at this
   push_cast at this
   exact this
  have br:∀ k:Nat,k < g.rules.length->g.rules[k]?=some (bH g k):=λk hk=>by unfold bH;exact getD_some (by simpa using hk)
  have bs:dN.Ok ⟨⟨gS a s.n.st y,⟨s.n.it.aw,s.n.it.dot+1⟩,s.n.ah ++ [y],s.n.be⟩,encI (s.n.ah ++ [y]),s.b⟩:=⟨.inl rfl,X.b⟩
  have bx:∀ k:Nat,dN.Ok ⟨⟨s.n.st,⟨k,0⟩,s.n.ah,fI g s.n.it ++ s.n.be⟩,s.a,encI (fI g s.n.it ++ s.n.be)⟩:=λk=>⟨X.a,.inl rfl⟩
  simp only[ag,encS] at bn
  simp(disch:=omega)only[↓wr,seval,wq,t1,t2,t5,t6,c,ag,encS]
  intro n8 F
  have b0:¬ n7=n8:=by rintro rfl;rw[c] at F;simp at F
  have o3:=Y.fresh (o:=.arr 1 [[gi y]]) F
  refine av.JU bl (by kernel_rfl) (M _ _) ⟨.tree (lp a),.tree (.val _),EX (by simp only[View.set,if_true]),trivial⟩ ?_
  simp(disch:=omega)only[↓wr,seval,wq,t1,t2,t5,t6,c,b0]
  intro n9 q
  obtain⟨c3,q⟩:=bR q bP
  have o4:=o3.fresh (n:=n9) (o:=.arr 1 [[gi y]]) (by simp only[View.set,Sr c3];exact q)
  try simp(disch:=omega)only[↓wr,seval,wq,t1,t2,t5,t6]
  refine av.lD cA (by kernel_rfl) ⟨X.a.j4,EX (by simp only[View.set,if_true]),trivial⟩ ?_
  have c4:¬ n7=n9:=by rintro rfl;rw[c] at q;simp at q
  simp(disch:=omega)only[↓wr,seval,wq,t1,t2,t5,t6,c,b0,c4,a7,a8,encI]
  have hm:=F5 S _ bs (by omega) u _ (o4.own 1 rfl)
  simp only[df,encI] at hm
  refine av.dW (hm.mono ?_)
  clear hm
  rintro r H5 ⟨o5,l5⟩
  have G:=(o4.perm (.swap _ _ _)).left o5 l5
  simp(disch:=omega)only[↓wr,seval,wq,t1,t2,t6]
  refine aY.up g.rules.length (λk T H'=>∃ (I:List dN) (U:V),I.map dN.n=iK g s.n y k (gH l ⟨gS a s.n.st y,⟨s.n.it.aw,s.n.it.dot+1⟩,s.n.ah ++ [y],s.n.be⟩)/\(∀ z∈I,z.Ok)/\bc H' [(U,5,I.map df),(.sl n7 0 1 5,5,[df s])] /\
   T 1=bJ a/\T 2=.aG (ag g) 0/\T 5=U/\T 6=gi i/\T 7=.ptr n7 0 0/\T 8=gi y/\T 12=gi k) ⟨_,r,by rw[ML,Z];rfl,H8 C bs,G,t1,t2,rfl,t6,rfl,rfl,rfl⟩ ?_
  clear Y o3 o4 o5 G F q c t1 t2 t5 t6
  rintro k k2 T H6 b1 ⟨I,U,J,m,G,t1,t2,t5,t6,t7,t8,t12⟩
  have c:=G.is 1 rfl (by simp)
  simp only[df] at c
  have L:(¬ k < g.rules.length∨0<=y)->I.map dN.n=iK g s.n y g.rules.length (gH l ⟨gS a s.n.st y,⟨s.n.it.aw,s.n.it.dot+1⟩,s.n.ah ++ [y],s.n.be⟩):=λh=>by
   rw[J]
   rcases h with h | h
   .rw[show k=g.rules.length by omega]
   .have b2:∀ k:Nat,k < g.rules.length->(bH g k).left≠-1 - y:=λk hk e=>by
     have:=K.left _ (SK (br k hk))
     omega
    rw[vV b2 k _ (by omega),vV b2 _ _ (Sy _)]
  simp(disch:=omega)only[↓wr,seval,wq,l0,t1,t2,t5,t6,t7,t8,t12,ag]
  apply ai.dec<;>intro hc
  rotate_left
  .simp(disch:=omega)only[↓wr,seval,wq,t1,t2,t5,t6,t7,t8,t12]
   exact aH N (by omega) ⟨_,I,U,A,l1,w,L (.inl (by omega)),m,G.own 0 rfl,t1,t2,t5,rfl⟩
  simp(disch:=omega)only[↓wr,seval,wq,t1,t2,t5,t6,t7,t8,t12]
  apply ai.dec<;>intro da
  rotate_left
  .simp(disch:=omega)only[↓wr,seval,wq,t1,t2,t5,t6,t7,t8,t12]
   exact aH N (by omega) ⟨_,I,U,A,l1,w,L (.inr (by omega)),m,G.own 0 rfl,t1,t2,t5,rfl⟩
  have hR:=br k (by omega)
  have db:=K.left _ (SK hR)
  generalize b7:bH g k=R at hR db
  simp(disch:=omega)only[↓wr,seval,wq,t1,t2,t5,t6,t7,t8,t12,ag,Ss,hR,SD,aQ]
  apply ai.eq<;>intro e
  .simp(disch:=omega)only[↓wr,seval,wq,t1,t2,t5,t6,t7,t8,t12,ag,encS,c]
   refine av.pure bn ?_
   simp(disch:=omega)only[↓wr,seval,wq,t1,t2,t5,t6,t7,t8,t12,c,cN]
   refine av.lD cC (by kernel_rfl) ⟨.tree (bU _),X.b.j4,trivial⟩ ?_
   simp(disch:=omega)only[↓wr,seval,wq,t1,t2,t5,t6,t7,t8,t12,c,a1,a6,encI]
   obtain⟨r1,_,_⟩:=cv k (by omega)
   have dj:=r1.short p h3
   rw[<-J,Sv] at dj
   have hm:=F5 I _ (bx k) (by omega) U _ (G.own 0 rfl)
   simp only[df,encI] at hm
   refine av.dW (hm.mono ?_)
   clear hm
   rintro r7 H7 ⟨o7,l7⟩
   simp(disch:=omega)only[↓wr,seval,wq,t1,t2,t5,t6,t7,t8,t12]
   refine aH b1 (by omega) ⟨_,r7,?_,H8 m (bx k),G.left o7 l7,t1,t2,rfl,t6,t7,t8,rfl⟩
   rw[ML,J,iK,St (by rw[b7];exact e)]
  .simp(disch:=omega)only[↓wr,seval,wq,t1,t2,t5,t6,t7,t8,t12]
   refine aH b1 (by omega) ⟨I,U,?_,m,G,t1,t2,t5,t6,t7,t8,rfl⟩
   rw[J,iK,Sr (by rw[b7];exact e)]
def mj:SC :=
 ae [ae [ab [aa 6 5,aa 7 0,aP 8 7,aU 9 .lss 6 8],cb 9 (.exit 0)],.block 1 (ae [ab [aa 12 0,aa 13 5,aZ 14 5 12 13,al 15 0 14,ak 16 15,aa 17 1,aU 18 .eql 16 17],bf 18 (ae [ab [aa 19 0,aa 20 5,aZ 21 5 19 20,ba 22 5 21,cL 5 4 22],.ret])]),ab [aa 10 5,aF 11 .add 10 1,aa 5 11]]
def nS:SF:=⟨ae [ab [((some 4),.op (.alloc [(.val (.int .i64 0)),(.val (.int .i64 0)),(.val (.int .i64 0)),(.emp 1),(.emp 1)]))],ae [ab [aR 5 0],cd 0 mj],ab [((some 23),.op (.build [(.val (.int .i64 0)),(.val (.int .i64 0)),(.val (.int .i64 0)),(.emp 1),(.emp 1)] [])),cL 5 4 23],.ret],
 [.cell 4 (some 5)],24⟩
theorem sM:aI Tryz.prog 63 []=some nS:=by kernel_rfl
def qj:SF:=⟨ae [ab [cG 2 0,bQ 4 1,bQ 5 1,aR 6 0],ab [ba 11 4 2,bg 12 32 [11],aa 10 12,dz 13 0 10,dz 14 1 10,aa 7 13,aa 8 14],ae [ab [aa 15 8,aF 16 .neq 15 0],bf 16 (ae [ab [aa 17 8,bQ 4 1,bQ 5 1,aa 6 17],.ret])],ae [.region false [⟨none,[aa 18 1,aF 19 .lss 18 0,aa 20 19]⟩,⟨(some (20,false)),[aa 21 1,aa 22 7,aP 23 22,aU 24 .geq 21 23]⟩,⟨none,[cR 25 20 24]⟩],bf 25 (ae [ab [bQ 4 1,bQ 5 1,aR 6 11],.ret])],ab [ba 26 4 2,aa 27 7,bg 28 64 [26,27],aa 29 1,bg 30 63 [28,29],((some 9),.op (.alloc [(.val (.int .i64 0)),(.val (.int .i64 0)),(.val (.int .i64 0)),(.emp 1),(.emp 1)])),cL 5 9 30],.region true [⟨none,[al 31 3 9,ak 32 31,ba 33 4 2,al 34 1 9,al 35 0 34,ak 36 35,bg 37 66 [33,36],al 38 1 9,al 39 1 38,ak 40 39,((some 41),.op (.slice 1 (.tmp 37) (some (.tmp 40)) none)),al 42 4 9,ak 43 42,bg 44 65 [41,43],aa 4 32,aa 5 44,aR 6 0]⟩],.ret],
 [.tmp 4,.tmp 5,.tmp 6],45⟩
theorem uq:aI Tryz.prog 25 [2]=some qj:=by kernel_rfl
theorem GB {l:List bt} {i k:Nat} {x:bt} (h:l[k]?=some x):cK (l.drop k) i=if x.st=i then x else cK (l.drop (k+1)) i:=by
 obtain⟨hk,he⟩:=SH.1 h
 unfold cK
 rw[To hk,he,Uz]
 by_cases e:x.st=i
 .simp[e]
 .simp[e]
theorem JM (S:List dN) (v:∀ y∈S,y.Ok) (O:S.length<=90000) (i:Nat) (hi:∃ y∈S.map dN.n,y.st=i) (u:V) (H:View) (w:aJ H u 5 (S.map df)) :
  au Tryz.prog 63 [u,gi i] H λr H'=>(∃ y∈S,r=.agg (df y)/\y.n=cK (S.map dN.n) i)/\∀ id,H id≠.dead->H' id=H id:=by
 have x:bZ u=some S.length:=by rw[w.len,Sv]
 refine au.of mixed sM ?_
 simp(disch:=omega)only[↓wr,seval,wq,nS]
 intro j l
 have A:∀ {o:dF} (id:Nat),H id≠.dead->(H.set j o) id=H id:=λ{o} id c=>by
  have:¬ id=j:=by rintro rfl;exact c l
  simp only[View.set,Sr this]
 refine aY.up S.length (λk T H'=>cK ((S.map dN.n).drop k) i=cK (S.map dN.n) i/\(∃ y∈(S.map dN.n).drop k,y.st=i)/\H' j=.arr 5 [[gi 0,gi 0,gi 0,.emp 1,.emp 1]]/\(∀ id,H id≠.dead->H' id=H id)/\T 0=u/\T 1=gi i/\T 4=.ptr j 0 0/\T 5=gi k)
  ⟨rfl,hi,by simp[View.set],λid c=>A id c,rfl,rfl,rfl,rfl⟩ ?_
 rintro k P T H1 hk ⟨J,hex,K,d,t0,t1,t4,t5⟩
 have B:aJ H1 u 5 (S.map df):=w.keep λid c=>d id (by rw[(w.live c).1];simp)
 simp(disch:=omega)only[↓wr,seval,wq,mj,t0,t1,t4,t5,x]
 apply ai.dec<;>intro L
 rotate_left
 .exfalso
  rw[S4 (by simp;omega)] at hex
  obtain⟨y,m,_⟩:=hex
  simp at m
 have m:S[k]?=some (S[k]'(by omega)):=Sn (by omega)
 have f:=Sx (show k < S.length by omega)
 generalize S[k]'(by omega)=y at m f
 have p:(S.map dN.n)[k]?=some y.n:=by rw[Ss,m];rfl
 have q:=GB (i:=i) p
 obtain⟨n,g,hH⟩:=B.sl (by simp;omega)
 rw[Sv] at g
 have h:(S.map df).getD k []=df y:=by simp[Sm,m]
 simp only[df] at h
 have s:=v y f
 obtain⟨⟨C,D,M⟩,⟨E,F,N⟩⟩:=And.intro s.a.eL s.b.eL
 simp(disch:=omega)only[↓wr,seval,wq,t0,t1,t4,t5,g,hH,h]
 refine⟨by omega,by first | omega | (simp;omega),?_⟩
 apply ai.eq<;>intro e
 .simp(disch:=omega)only[↓wr,seval,wq,t0,t1,t4,t5,g,hH,h,K,C,D,E,F]
  refine⟨by omega,by first | omega | (simp;omega),?_⟩
  refine⟨⟨y,f,rfl,?_⟩,λid c=>?_⟩
  .rw[<-J,q,St (by omega)]
  .have:¬ id=j:=by rintro rfl;exact c l
   simp only[Sr this]
   exact d id c
 .simp(disch:=omega)only[↓wr,seval,wq,t0,t1,t4,t5]
  refine aH hk (by omega) ⟨?_,?_,K,d,t0,t1,t4,rfl⟩
  .rw[<-J,q,Sr (by omega)]
  .obtain⟨z,t,G⟩:=hex
   obtain⟨I,he⟩:=SH.1 p
   rw[To I,he] at t
   rcases SM.1 t with rfl | t
   .omega
   .exact⟨z,t,G⟩
theorem N1 (g:af) (E:g.Ok) (s:Int):ay Tryz.prog 25 [.agg (ag g),gi s] (vS (jn g s)):=by
 refine ay.of (zk g s) ?_
 have F:=(IU g E).pure
 have k:bZ (bJ (bI g).1)=some (bI g).1.length:=by simp[bJ,bZ]
 refine au.of mixed uq ?_
 simp only[ag,encS] at F
 simp(disch:=omega)only[↓wr,seval,wq,qj,ag,encS]
 refine av.pure F ?_
 simp(disch:=omega)only[↓wr,seval,wq]
 unfold jn
 apply ai.ne<;>intro h
 .rw[St h]
  simp(disch:=omega)only[↓wr,seval,wq]
  intro q _
  exact oS
 rw[Sr (by omega)]
 obtain⟨hr,j,c⟩:=xX h
 have r:=yM hr
 generalize (bI g).1=a at *
 simp(disch:=omega)only[↓wr,seval,wq,k]
 apply ai.dec<;>intro h1
 .rw[St (by omega)]
  simp(disch:=omega)only[↓wr,seval,wq]
  intro q _
  exact oS
 simp(disch:=omega)only[↓wr,seval,wq,k]
 apply ai.dec<;>intro t
 .rw[St (by omega)]
  simp(disch:=omega)only[↓wr,seval,wq]
  intro q _
  exact oS
 rw[Sr (by omega)]
 obtain⟨i,rfl⟩:∃ i:Nat,s=i:=⟨s.toNat,by omega⟩
 have hi:i < a.length:=by omega
 obtain⟨f1,f2,f3⟩:=zg j c hi
 obtain⟨p,H,I,J,_,_⟩:=sj j c hi
 obtain⟨K,_,_⟩:=uP j c
 have L:=K.short j c
 have G:=iA j.gM
 have l:=J3 g E r a j c (λ_=>.dead)
 simp only[ag,encS] at l
 simp(disch:=omega)only[↓wr,seval,wq,ag,encS]
 refine av.dW (l.mono ?_)
 rintro u H1 ⟨S,M,v,m⟩
 have N:S.length=(bW g a).length:=by rw[<-v,Sv]
 simp(disch:=omega)only[↓wr,seval,wq]
 refine av.dW ((JM S m (by omega) i ⟨_,by rw[v];exact f1,f2⟩ u H1 M).mono ?_)
 rintro _ U ⟨⟨y,w,rfl,f⟩,_⟩
 rw[v] at f
 have e:=m y w
 obtain⟨⟨x,z,O⟩,⟨A,B,P⟩⟩:=And.intro e.a.eL e.b.eL
 have C:eW g a i=(y.n.ah,dA g y.n.it ++ y.n.be):=by rw[f];rfl
 rw[<-f] at p H I J
 have Q:=wT (dA g y.n.it) y.n.be (by omega)
 have o:=AP g (by unfold bK;omega) y.n.it.aw p.1
 obtain⟨d,R⟩:∃ d:Nat,y.n.it.dot=d:=⟨y.n.it.dot.toNat,by have:=p.2;omega⟩
 have D:cz 1 (encI (bB g y.n.it.aw)) (some (gi y.n.it.dot)) none=some (encI (dA g y.n.it),.none,[]):=by
  have t:=p.2
  unfold dA
  rw[R] at t ⊢
  rw[Tf]
  exact qB (by omega)
 simp only[ag,encS] at o
 simp(disch:=omega)only[↓wr,seval,wq,df,x,z,A,B]
 intro n9 T
 try simp(disch:=omega)only[↓wr,seval,wq,ag,encS]
 refine av.pure o ?_
 simp(disch:=omega)only[↓wr,seval,wq,D]
 refine av.lD Q (by kernel_rfl) ⟨.tree (bU _),e.b.j4,trivial⟩ ?_
 try simp(disch:=omega)only[↓wr,seval,wq]
 intro q _
 rw[C]
 exact Hq e.a (.tree _ (bU _))
def Om (g:af) (s:Int) (n:Nat) (o:List aD):List aD:=(List.range n).foldl (λo (k:Nat)=>if (bH g k).left = -1 - s then dY o ⟨k,0⟩ else o) o
def EI (g:af) (p:List aD) (x:aD):List aD:=if (bo g x).2=true/\(bo g x).1 < 0 then Om g (bo g x).1 g.rules.length p else p
def AE (g:af) (l:List aD):List aD:=iter (λo=>o.foldl (EI g) o) g.rules.length l
def P6 (g:af) (l o:List aD):Bool:=l.all (λx=>decide (x∈o)) && o.all λx=>!(bo g x).2 || decide (0<=(bo g x).1) || (List.range g.rules.length).all λ(k:Nat)=>!decide ((bH g k).left = -1 - (bo g x).1) || decide ((⟨k,0⟩:aD)∈o)
def En (g:af) (l o:List aD):Prop:=bX o/\∀ x∈o,lP g l x
theorem IP {g:af} {k:Nat} (h:k < g.rules.length):g.rules[k]?=some (bH g k):=by unfold bH;rw[Tf];exact getD_some h
theorem HW {g:af} {l:List aD} {x:aD} {s:Int} (c:lP g l x) (d:bo g x=(s,true)) (e:s < 0):∀ (n:Nat) (o:List aD),n<=g.rules.length->En g l o->En g l (Om g s n o)
 | 0,_,_,h=>h
 | n+1,o,f,h=>by
  have a:=HW c d e n o (by omega) h
  unfold Om at a ⊢
  rw[Uq,T4]
  simp only[Tp,List.foldl_nil]
  split
  .rename_i i
   refine⟨mU a.1,λy b=>?_⟩
   rcases iu.1 b with rfl | b
   .exact .step c d e (IP (by omega)) i
   .exact a.2 y b
  .exact a
theorem yu {g:af} {l:List aD} : ∀ (q o:List aD),(∀ x∈q,lP g l x)->En g l o->En g l (q.foldl (EI g) o)
 | [],_,_,h=>h
 | x :: q,o,a,h=>by
  rw[Tp]
  refine yu q _ (λy c=>a y (by simp[c])) ?_
  unfold EI
  split
  .rename_i b
   exact HW (a x (by simp)) (Prod.ext rfl b.1) b.2 _ _ (Sy _) h
  .exact h
theorem AB {α:Type} {p:α->Prop} {f:α->α} (h:∀ x,p x->p (f x)):∀ (n:Nat) (x:α),p x->p (iter f n x)
 | 0,_,a=>a
 | n+1,x,a=>AB h n (f x) (h x a)
theorem Nj {g:af} (i:g.cZ) {l:List aD} (j:bX l) (m:∀ x∈l,b6 g x) (h:P6 g l (AE g l)=true):cE g l=AE g l:=by
 have d:En g l (AE g l):=AB (λo e=>yu o o e.2 e) _ l ⟨j,λx b=>.base b⟩
 simp only[P6,SE,Tc,SN] at h
 refine zd i m d.1 d.2 h.1 λx b s k R n f hk p=>?_
 have h1:=h.2 x b
 obtain⟨a,q⟩:=SH.1 hk
 rw[IP a] at hk
 simp only[Sq] at hk
 simp only[n,Ut,Bool.false_or,Up,SN,Tc,TL,Ur,TJ] at h1
 rcases h1 with h1 | h1
 .omega
 .rcases h1 k a with c | c
  .exact absurd (by rw[hk];exact p) c
  .exact c
def DU (g:af) (at_:Nat) (out:List aL):List aL:=(List.range (g.ao.length+g.aj.length)).foldl (cO g (AE g (out.getD at_ bD).bb) at_) out
def DG (g:af):Nat->Nat->List aL->Option (List aL)
 | 0,_,_=>none
 | f+1,at_,out=>if at_ < out.length then
   (if P6 g (out.getD at_ bD).bb (AE g (out.getD at_ bD).bb)=true/\(DU g at_ out).length<=300 then DG g f (at_+1) (DU g at_ out) else none)
  else some out
theorem D6 {g:af} (b:g.cZ):∀ (f at_:Nat) (out a:List aL),dC g at_ 0 out->DG g f at_ out=some a->∀ k:Nat,f<=k->eM g k at_ out=(a,0)
 | 0,_,_,_,_,h,_,_=>by simp[DG] at h
 | f+1,at_,out,a,l,h,k,hk=>by
  obtain⟨j,rfl⟩:∃ j,k=j+1:=⟨k - 1,by omega⟩
  rw[DG] at h
  rw[eM]
  split at h
  .rename_i c
   rw[St c]
   split at h
   .rename_i m
    have hm:=SK (getD_some (d:=bD) c)
    have i:=l.bb _ hm
    have e:s0 g at_ out (g.ao.length+g.aj.length)=DU g at_ out:=by
     unfold s0 DU
     rw[Nj b i.1 i.2.2 m.1]
    have hr:=dC.row (l.k6 b c).1 (l.k6 b c).2 l (g.ao.length+g.aj.length) (by have:=b.ao;have:=b.aj;omega)
    rw[show (List.range (g.ao.length+g.aj.length)).foldl (cO g (cE g (out.getD at_ bD).bb) at_) out=s0 g at_ out (g.ao.length+g.aj.length) from rfl] at hr
    rw[e] at hr ⊢
    rw[Sr (by omega)]
    exact D6 b f (at_+1) _ a hr.1.next h j (by omega)
   .simp at h
  .rename_i c
   rw[Sr c]
   simp only[Sq] at h
   rw[h]
def JF:List aL:=[⟨[⟨-1,0⟩],[⟨0,1⟩,⟨-1,2⟩]⟩,⟨[⟨0,1⟩],[⟨0,1⟩,⟨-1,3⟩]⟩,⟨[⟨-1,1⟩],[]⟩,⟨[⟨0,2⟩],[]⟩]
theorem P5:bI iC=(JF,0):=by
 have hr:isRed iC=true:=by kernel_rfl
 unfold bI
 rw[St hr]
 exact D6 (qo hr) 10 0 dI JF kh (by kernel_rfl) 302 (by omega)
theorem Se:bI qd=([],1):=by
 unfold bI
 rw[Sr (by rw[show isRed qd=false by kernel_rfl];simp)]
theorem QV:jn iC 1=(([0],[-1]),0):=by
 unfold jn
 rw[P5]
 have h:eW iC JF 1=([0],[-1]):=by kernel_rfl
 exact Prod.ext h rfl
theorem Q6:jn iC 4=(([],[]),11):=by
 unfold jn
 rw[P5]
 rfl
def Kg:List uy:=[⟨0,0,[]⟩,⟨1,1,[0]⟩,⟨2,0,[]⟩,⟨3,1,[0]⟩]
theorem Qh:tM iC=(Kg,0):=by
 unfold tM
 rw[P5]
 have h:eR iC JF 4=(Kg,0):=by kernel_rfl
 exact h
theorem QJ:tM qd=([],1):=by
 unfold tM
 rw[Se]
 rfl
noncomputable def PS:List (FuncId × DF):=um Tryz.prog [(23,[]),(26,[])]
theorem JI:oX Tryz.prog PS:=qS _ _
noncomputable def OQ:List BF:=[(44,[EC O3],xY iC,false),(24,[.agg (ag iC),gi 1],vS (([0],[-1]),0),true),(24,[.agg (ag iC),gi 4],vS (([],[]),11),true),
 (28,[.agg (ag iC)],DO (Kg,0),true),(28,[.agg (ag qd)],DO ([],1),true)]
theorem OE:∀ x∈OQ,x.Ok Tryz.prog:=by
 intro x a
 simp only[OQ,SM,List.not_mem_nil,or_false] at a
 rcases a with rfl | rfl | rfl | rfl | rfl
 .exact⟨by kernel_rfl,.inl QY⟩
 .exact⟨by kernel_rfl,QV ▸ BL iC mI.1 mI.2 1⟩
 .exact⟨by kernel_rfl,Q6 ▸ BL iC mI.1 mI.2 4⟩
 .exact⟨by kernel_rfl,Qh ▸ Cq iC mI.1 mI.2⟩
 .exact⟨by kernel_rfl,QJ ▸ Cq qd P9 ⟨by decide⟩⟩
theorem Kl:ay Tryz.prog 23 [] (gb true) :=
 (nh mixed JI (FA OE) (by simp) (by kernel_rfl)).pure
def kg:SF:=⟨ae [ab [cG 2 0,bm 4 false],ae [ab [bg 11 23 [],dp 12 11],bf 12 (ae [ab [bm 4 false],.ret])],ae [ab [ba 13 4 2,bg 14 14 [13]],bf 14 (ae [ab [bm 4 true],.ret])],ab [ba 16 4 2,aa 17 1,bg 18 24 [16,17],aa 15 18,dz 19 0 15,dz 20 1 15,dz 21 2 15,aa 5 19,aa 6 20,aa 7 21],ab [ba 23 4 2,aa 24 1,bg 25 25 [23,24],aa 22 25,dz 26 0 22,dz 27 1 22,dz 28 2 22,aa 8 26,aa 9 27,aa 10 28],.region false [⟨none,[aa 29 5,aa 30 8,bg 31 26 [29,30],aa 32 31]⟩,⟨(some (32,true)),[aa 33 6,aa 34 9,bg 35 26 [33,34]]⟩,⟨none,[eA 36 32 35,aa 37 36]⟩,⟨(some (37,true)),[aa 38 7,aa 39 10,aU 40 .eql 38 39]⟩,⟨none,[eA 41 37 40,aa 4 41]⟩],.ret],
 [.tmp 4],42⟩
theorem ph:aI Tryz.prog 5 [2]=some kg:=by kernel_rfl
theorem Jc (g:af) (s:Int):aK (jn g s).1.1/\aK (jn g s).1.2/\((jn g s).2=0->(jn g s).1.1.length<=86100/\(jn g s).1.2.length<=600000):=by
 unfold jn
 split
 .exact⟨by unfold aK;simp,by unfold aK;simp,λ_=>by simp⟩
 .rename_i h
  split
  .exact⟨by unfold aK;simp,by unfold aK;simp,λ_=>by simp⟩
  .rename_i d
   obtain⟨_,c,a⟩:=xX (Decidable.not_not.1 h)
   obtain⟨_,e,f,j,_,_⟩:=sj c a (i:=s.toNat) (by omega)
   have b:eW g (bI g).1 s.toNat=((cK (bW g (bI g).1) s.toNat).ah,dA g (cK (bW g (bI g).1) s.toNat).it ++ (cK (bW g (bI g).1) s.toNat).be):=rfl
   simp only[b]
   exact⟨by unfold aK;omega,by unfold aK;simp only[SV];omega,λ_=>⟨by omega,by simp only[SV];omega⟩⟩
theorem DA (g:af) (a:g.Ok) (s:Int) (_:bK s):ay Tryz.prog 5 [.agg (ag g),gi s] (gb true):=by
 refine ay.val (zk g s) λH=>?_
 refine au.of mixed ph ?_
 simp(disch:=omega)only[↓wr,seval,wq,kg,ag,encS]
 refine av.pure Kl ?_
 simp(disch:=omega)only[↓wr,seval,wq,ag,encS]
 refine av.pure (Oy g) ?_
 simp(disch:=omega)only[↓wr,seval,wq]
 apply ai.split<;>intro e
 .simp(disch:=omega)only[↓wr,seval,wq]
 have h1:=BL g a (GA e) s
 have b:=N1 g a s
 obtain⟨f,h,_⟩:=Jc g s
 have c:=BQ (jn g s).1.1 (jn g s).1.1 f
 have d:=BQ (jn g s).1.2 (jn g s).1.2 h
 rw[Uv] at c d
 generalize jn g s=x at *
 simp only[ag,encS] at h1 b
 simp(disch:=omega)only[↓wr,seval,wq,ag,encS]
 refine av.pure h1 ?_
 simp(disch:=omega)only[↓wr,seval,wq,vS,ag,encS]
 refine av.pure b ?_
 simp(disch:=omega)only[↓wr,seval,wq,vS]
 refine av.pure c ?_
 simp(disch:=omega)only[↓wr,seval,wq]
 refine av.pure d ?_
 simp(disch:=omega)only[↓wr,seval,wq]
 simp
end Gv
