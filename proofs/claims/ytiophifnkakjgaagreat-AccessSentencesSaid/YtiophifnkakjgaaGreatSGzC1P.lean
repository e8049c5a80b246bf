/-
  Part 16 of the proof: what the machine does and what the functions answer.
  Conditions: those that each lemma names.
-/
import Derived.Test.YtiophifnkakjgaaGreatSGzC1O
set_option linter.unusedSimpArgs false
set_option linter.unusedVariables false
set_option maxRecDepth 100000
set_option maxHeartbeats 20000000
namespace Gv
open Go Go.Proofs
def oG:SC :=
 ae [ae [ab [aa 7 6,aa 8 0,aN 9 8,aQ 10 .lss 7 9],bX 10 (.exit 0)],.block 1 (ae [ab [aa 13 0,aa 14 6,aO 15 2 13 14,ao 16 1 15,ak 17 16,aa 18 1,bk 19 168 [17,18]],bb 19 (ab [aa 20 5,aa 21 0,aa 22 6,aO 23 2 21 22,ao 24 0 23,ak 25 24,((some 26),.op (.bJ 1 1 [(.val (.int .i64 0))] [(0,(.tmp 25))])),fD 27 1 8 20 26,aa 5 27])]),ab [aa 11 6,aF 12 .add 11 1,aa 6 12]]
def qQ:SF:=⟨ae [ab [bT 4 1],ab [bT 5 1],ae [ab [aR 6 0],bZ 0 oG],ab [aa 28 5,aa 4 28],.ret],
 [.tmp 4],29⟩
theorem xh:aP Tryz.prog 102 []=some qQ:=by kernel_rfl
def qA:SF:=⟨ae [ab [cF 3 0,aR 6 0],ae [.region false [⟨none,[aZ 11 4 3,bk 12 50 [11],c9 13 12,aa 14 13]⟩,⟨(some (14,false)),[aa 15 1,aF 16 .lss 15 0]⟩,⟨none,[cy 17 14 16,aa 18 17]⟩,⟨(some (18,false)),[aa 19 1,ao 20 2 3,ak 21 20,aN 22 21,aQ 23 .geq 19 22]⟩,⟨none,[cy 24 18 23,aa 25 24]⟩,⟨(some (25,false)),[aa 26 2,aF 27 .lss 26 0]⟩,⟨none,[cy 28 25 27,aa 29 28]⟩,⟨(some (29,false)),[aa 30 2,ao 31 0 3,ak 32 31,aN 33 32,aQ 34 .gtr 30 33]⟩,⟨none,[cy 35 29 34]⟩],bb 35 (ae [ab [aR 6 0],.ret])],ab [ao 36 2 3,ak 37 36,aa 38 1,aO 39 3 37 38,ao 40 2 39,ak 41 40,aa 7 41],ae [.region false [⟨none,[aa 42 2,ao 43 0 3,ak 44 43,aN 45 44,aQ 46 .eql 42 45,aa 47 46]⟩,⟨(some (47,false)),[aa 48 7,aF 49 .lss 48 0]⟩,⟨none,[cy 50 47 49,aa 51 50]⟩,⟨(some (51,false)),[ao 52 0 3,ak 53 52,aa 54 7,aO 55 3 53 54,ao 56 1 55,ak 57 56,aF 58 .eql 57 0]⟩,⟨none,[cy 59 51 58,aa 60 59]⟩,⟨(some (60,false)),[ao 61 0 3,ak 62 61,aa 63 2,aO 64 3 62 63,ao 65 1 64,ak 66 65,aF 67 .eql 66 0]⟩,⟨none,[cy 68 60 67]⟩],bb 68 (ae [ab [aR 6 4],.ret])],ab [ao 69 0 3,ak 70 69,aa 71 7,aO 72 3 70 71,ao 73 1 72,ak 74 73,ao 75 0 3,ak 76 75,aa 77 2,aO 78 3 76 77,ao 79 1 78,ak 80 79,aa 8 74,aa 9 80],ab [ao 81 0 3,ak 82 81,aa 83 2,aO 84 3 82 83,ao 85 2 84,ak 86 85,aa 10 86],.block 0 (ae [.region false [⟨none,[aa 88 8,aa 89 9,aQ 90 .gtr 88 89,aa 91 90]⟩,⟨(some (91,false)),[aa 92 8,aa 93 9,aQ 94 .eql 92 93,aa 95 94]⟩,⟨(some (95,true)),[aa 96 10,aF 97 .eql 96 1]⟩,⟨(some (91,false)),[eO 98 95 97]⟩,⟨none,[cy 99 91 98,aa 87 99]⟩],.cond (.tmp 87) (ae [ab [aR 6 1],.ret]) (ae [.region false [⟨none,[aa 101 8,aa 102 9,aQ 103 .lss 101 102,aa 104 103]⟩,⟨(some (104,false)),[aa 105 10,aF 106 .eql 105 2]⟩,⟨none,[cy 107 104 106,aa 100 107]⟩],bb 100 (ae [ab [aR 6 2],.ret])])]),ab [aR 6 3],.ret],
 [.tmp 6],108⟩
theorem vB:aP Tryz.prog 103 [3]=some qA:=by kernel_rfl
def oR:SC :=
 ae [ae [ab [aa 9 7,ao 10 1 4,ak 11 10,aN 12 11,aQ 13 .lss 9 12],bX 13 (.exit 0)],.block 1 (ae [ab [ao 16 1 4,ak 17 16,aa 18 7,aO 19 2 17 18,ao 20 0 19,ak 21 20,aa 22 2,aQ 23 .eql 21 22],bb 23 (ae [ab [ao 24 1 4,ak 25 24,aa 26 7,aO 27 2 25 26,ao 28 1 27,ak 29 28,((some 30),.op (.build [(.val (.int .i64 0)),(.val (.int .i64 0))] [(0,1,(.val (.val (.int .i64 1)))),(1,1,(.tmp 29))])),cD 2 6 30],.ret])]),ab [aa 14 7,aF 15 .add 14 1,aa 7 15]]
def pj:SC :=
 ae [ae [ab [aa 31 8,ao 32 0 4,ak 33 32,aN 34 33,aQ 35 .lss 31 34],bX 35 (.exit 2)],.block 3 (ae [.region false [⟨none,[aa 38 2,ao 39 0 3,ak 40 39,aN 41 40,aQ 42 .eql 38 41,aa 43 42]⟩,⟨(some (43,true)),[ao 44 0 4,ak 45 44,aa 46 8,aO 47 2 45 46,aZ 48 2 47,((some 49),.op (.build [(.val (.int .i64 0)),(.val (.int .i64 0))] [(0,1,(.val (.val (.int .i64 (-1))))),(1,1,(.val (.val (.int .i64 1))))])),((some 50),.op (.old (.binOp .eql 120 (.tmp 48) (.tmp 49) 120) 4))]⟩,⟨none,[eO 51 43 50]⟩],bb 51 (ae [ab [((some 52),.op (.build [(.val (.int .i64 0)),(.val (.int .i64 0))] [(0,1,(.val (.val (.int .i64 3))))])),cD 2 6 52],.ret])]),ab [aa 36 8,aF 37 .add 36 1,aa 8 37]]
def qX:SF:=⟨ae [ab [cF 3 0,cF 4 1,((some 6),.op (.alloc [(.val (.int .i64 0)),(.val (.int .i64 0))]))],ae [ab [aR 7 0],bZ 0 oR],ae [ab [aR 8 0],bZ 2 pj],ab [((some 53),.op (.build [(.val (.int .i64 0)),(.val (.int .i64 0))] [])),cD 2 6 53],.ret],
 [.cell 6 (some 2)],54⟩
theorem xE:aP Tryz.prog 101 [3,4]=some qX:=by kernel_rfl
theorem PN (l:List dz) (m:l.length<=10000) (n:Int):cK Tryz.prog 102 [.aU (nb l),gi n] (encI (fA l n)):=by
 refine cK.of (by
  intro v d;simp at d
  rcases d with rfl | rfl
  .exact Ns _
  .exact .val _) ?_
 refine aw.of mixed xh ?_
 simp(disch:=omega)only[↓wr,seval,wq,qQ,nb]
 refine ba.up l.length (λi T H'=>∃ u:V,aT H' u 1 (bH (fA (l.take i) n))/\T 0=.aU (nb l)/\T 1=gi n/\T 5=u/\T 6=gi i) ⟨.emp 1,.nil,rfl,rfl,rfl,rfl⟩ ?_
 rintro i k T H hk ⟨u,b,t0,t1,t5,t6⟩
 simp(disch:=omega)only[↓wr,seval,wq,oG,t0,t1,t5,t6,nb]
 apply aj.dec<;>intro e
 .have c:l[i]?=some (l[i]'(by omega)):=aaB (by omega)
  generalize l[i]'(by omega)=x at c
  have a:fA (l.take (i+1)) n=if hasB x.set n=true then fA (l.take i) n ++ [x.au] else fA (l.take i) n:=by
   unfold fA
   rw[Ig c]
   split <;> simp
  have f:(fA (l.take i) n).length<=i:=by
   unfold fA
   have:=abJ (λx:dz=>hasB x.set n) (l.take i)
   simp only[aaJ,abn] at this ⊢
   omega
  simp(disch:=omega)only[↓wr,seval,wq,t0,t1,t5,t6,nb,aaE,c,aaH,E8]
  refine ax.pure (Uw x.set n) ?_
  simp(disch:=omega)only[↓wr,seval,wq,t0,t1,t5,t6]
  apply aj.split<;>intro he
  .simp(disch:=omega)only[↓wr,seval,wq,t0,t1,t5,t6,nb,aaE,c,aaH,E8]
   intro q g
   simp(disch:=omega)only[↓wr,seval,wq,bz]
   refine gF (b.fresh g) (by simp[aI]) (by unfold aC;simp;omega) (by unfold aC;simp;omega) ?_
   intro h o j _
   simp(disch:=omega)only[↓wr,seval,wq,t0,t1,t5,t6]
   rw[aaF he] at a
   exact aG hk (by omega) ⟨h,by rw[a];simpa using j,t0,t1,rfl,rfl⟩
  .simp(disch:=omega)only[↓wr,seval,wq,t0,t1,t5,t6]
   rw[aaD (by rw[he];simp)] at a
   exact aG hk (by omega) ⟨u,by rw[a];exact b,t0,t1,t5,rfl⟩
 .rw[aaS (by omega)] at b
  simp(disch:=omega)only[↓wr,seval,wq,t5]
  rintro p rfl
  exact kK b
theorem Iz {g:af} {t:Int} {x:Term} (h:g.ai[t.toNat]?=some x):gO g t=x.level/\yA g t=x.assoc:=by
 simp[gO,yA,h]
theorem Mn (g:af) (r:g.Ok) (au term:Int):az Tryz.prog 103 [.agg (ag g),gi au,gi term] (gi (mK g au term)):=by
 refine az.val (by
  intro v j;simp at j
  rcases j with rfl | rfl | rfl
  .exact bL _ (cd g)
  .exact .val _
  .exact .val _) λH=>?_
 have c:=iO g r
 refine aw.of mixed vB ?_
 simp only[ag,encS] at c
 simp(disch:=omega)only[↓wr,seval,wq,qA,ag,encS]
 refine ax.pure c ?_
 have bad:bp g=false∨au < 0∨(g.rules.length:Int)<=au∨term < 0∨(g.ai.length:Int) < term->mK g au term=0:=λh=>by rw[mK,aaF h]
 cases hr:bp g with
 | false =>
  simp(disch:=omega)only[↓wr,seval,wq]
  rw[bad (.inl hr)]
 | true =>
  have s:=bj hr
  simp(disch:=omega)only[↓wr,seval,wq]
  apply aj.dec<;>intro h1
  .simp(disch:=omega)only[↓wr,seval,wq]
   rw[bad (.inr (by omega))]
  simp(disch:=omega)only[↓wr,seval,wq,ag]
  apply aj.dec<;>intro t
  .simp(disch:=omega)only[↓wr,seval,wq]
   rw[bad (.inr (by omega))]
  simp(disch:=omega)only[↓wr,seval,wq]
  apply aj.dec<;>intro u
  .simp(disch:=omega)only[↓wr,seval,wq]
   rw[bad (.inr (by omega))]
  simp(disch:=omega)only[↓wr,seval,wq,ag]
  apply aj.dec<;>intro w
  .simp(disch:=omega)only[↓wr,seval,wq]
   rw[bad (.inr (by omega))]
  have e:g.rules[au.toNat]?=some (aA g au):=by unfold aA;exact getD_some (by omega)
  have x:=s.prec _ (aaI e)
  have k:mK g au term=if term=g.ai.length∨(aA g au).prec < 0∨gO g (aA g au).prec=0∨gO g term=0 then 4
    else if gO g term < gO g (aA g au).prec∨gO g (aA g au).prec=gO g term/\yA g term=1 then 1
    else if gO g (aA g au).prec < gO g term∨yA g term=2 then 2 else 3:=by
   rw[mK,aaD (by rw[hr];simp;omega)]
  rw[k]
  clear k bad
  generalize aA g au=R at e x
  simp(disch:=omega)only[↓wr,seval,wq,ag,aaE,e,aaH,bg]
  apply aj.eq<;>intro l
  .simp(disch:=omega)only[↓wr,seval,wq]
   rw[aaF (.inl l)]
  simp(disch:=omega)only[↓wr,seval,wq]
  apply aj.dec<;>intro m
  .simp(disch:=omega)only[↓wr,seval,wq]
   rw[aaF (.inr (.inl m))]
  have hp:g.ai[R.prec.toNat]?=some (g.ai[R.prec.toNat]'(by omega)):=aaB (by omega)
  have d:g.ai[term.toNat]?=some (g.ai[term.toNat]'(by omega)):=aaB (by omega)
  generalize g.ai[R.prec.toNat]'(by omega)=p at hp
  generalize g.ai[term.toNat]'(by omega)=q at d
  obtain⟨y,_⟩:=Iz hp
  obtain⟨z,A⟩:=Iz d
  rw[y,z,A]
  simp(disch:=omega)only[↓wr,seval,wq,ag,aaE,hp,d,aaH,dg]
  apply aj.eq<;>intro n
  .simp(disch:=omega)only[↓wr,seval,wq]
   rw[aaF (.inr (.inr (.inl n)))]
  simp(disch:=omega)only[↓wr,seval,wq,ag,aaE,hp,d,aaH,dg]
  apply aj.eq<;>intro o
  .simp(disch:=omega)only[↓wr,seval,wq]
   rw[aaF (.inr (.inr (.inr o)))]
  rw[aaD (by omega)]
  simp(disch:=omega)only[↓wr,seval,wq,ag,aaE,hp,d,aaH,dg]
  apply aj.dec<;>intro B
  .simp(disch:=omega)only[↓wr,seval,wq]
   rw[aaF (by omega)]
  simp(disch:=omega)only[↓wr,seval,wq]
  apply aj.eq<;>intro f
  .simp(disch:=omega)only[↓wr,seval,wq]
   apply aj.eq<;>intro i
   .simp(disch:=omega)only[↓wr,seval,wq]
    rw[aaF (by omega)]
   .simp(disch:=omega)only[↓wr,seval,wq]
    rw[aaD (by omega)]
    apply aj.dec<;>intro a
    .simp(disch:=omega)only[↓wr,seval,wq]
     rw[aaF (by omega)]
    simp(disch:=omega)only[↓wr,seval,wq]
    apply aj.eq<;>intro b
    .simp(disch:=omega)only[↓wr,seval,wq]
     rw[aaF (by omega)]
    .simp(disch:=omega)only[↓wr,seval,wq]
     rw[aaD (by omega)]
  .simp(disch:=omega)only[↓wr,seval,wq]
   rw[aaD (by omega)]
   apply aj.dec<;>intro a
   .simp(disch:=omega)only[↓wr,seval,wq]
    rw[aaF (by omega)]
   simp(disch:=omega)only[↓wr,seval,wq]
   apply aj.eq<;>intro b
   .simp(disch:=omega)only[↓wr,seval,wq]
    rw[aaF (by omega)]
   .simp(disch:=omega)only[↓wr,seval,wq]
    rw[aaD (by omega)]
theorem EN:∀ (l:List fp) (s:Int) (i:Nat),(∀ j e,j < i->l[j]?=some e->e.sym≠s)->(∀ e,l[i]?=some e->e.sym=s->iS l s=some ⟨1,e.to⟩)/\(l.length<=i->iS l s=none)
 | [],s,i,_=>⟨λe h=>by simp at h,λ_=>rfl⟩
 | x :: l,s,0,_=>⟨λe h a=>by simp at h;subst h;simp[iS,a],λh=>by simp at h⟩
 | x :: l,s,i+1,h=>by
  have b:=h 0 x (by omega) rfl
  obtain⟨h1,c⟩:=EN l s i λj e f he=>h (j+1) e (by omega) (by simpa using he)
  refine⟨λe he a=>?_,λd=>?_⟩
  .rw[iS,aaD b];exact h1 e (by simpa using he) a
  .rw[iS,aaD b];exact c (by simpa using d)
theorem PR (g:af) (y:g.Ok) (s:aJ) (z:aK s.bO/\aK s.bc) (t:Int):az Tryz.prog 101 [.agg (ag g),.agg (fI s),gi t] (.agg (dp (iG g s t))):=by
 obtain⟨p,q⟩:=z
 have A:=y.ai
 unfold aK at p q A
 refine az.tree (by
  intro v w;simp at w
  rcases w with rfl | rfl | rfl
  .exact bL _ (cd g)
  .exact bL _ (zN s)
  .exact .val _) (bL _ (vc _)) λH=>?_
 refine aw.of mixed xE ?_
 simp(disch:=omega)only[↓wr,seval,wq,qX]
 refine⟨rfl,rfl,λb f=>?_⟩
 refine ba.up s.bO.length (λi T H'=>(∀ j e,j < i->s.bO[j]?=some e->e.sym≠t)/\H' b=.arr 2 [[gi 0,gi 0]]/\T 2=gi t/\T 3=.aL (ag g) 0/\T 4=.aL (fI s) 0/\T 6=.ptr b 0 0/\T 7=gi i) ⟨λj e h=>by omega,by simp[View.set],rfl,rfl,rfl,rfl,rfl⟩ ?_
 rintro i k T H hk ⟨a,f,t2,t3,t4,t6,t7⟩
 obtain⟨f1,f2⟩:=EN s.bO t i a
 simp(disch:=omega)only[↓wr,seval,wq,oR,t2,t3,t4,t6,t7,fI,jL]
 apply aj.dec<;>intro B
 .have l:s.bO[i]?=some (s.bO[i]'(by omega)):=aaB (by omega)
  generalize s.bO[i]'(by omega)=E at l
  simp(disch:=omega)only[↓wr,seval,wq,t2,t3,t4,t6,t7,fI,jL,aaE,l,aaH,kc]
  apply aj.eq<;>intro he
  .simp(disch:=omega)only[↓wr,seval,wq,t2,t3,t4,t6,t7,fI,jL,aaE,l,aaH,kc,f]
   rw[iG,f1 E l he]
   rfl
  .simp(disch:=omega)only[↓wr,seval,wq,t2,t3,t4,t6,t7]
   refine aG hk (by omega) ⟨λj e r c=>?_,f,t2,t3,t4,t6,rfl⟩
   rcases aa2 j i with h | h
   .exact a j e h c
   .have:j=i:=by omega
    subst this
    rw[l] at c;simp at c;subst c;exact he
 have d:=f2 (by omega)
 simp(disch:=omega)only[↓wr,seval,wq,t2,t3,t4,t6]
 refine ba.up s.bc.length (λi T H'=>(t=g.ai.length->∀ j x,j < i->s.bc[j]?=some x->x≠(⟨-1,1⟩:ay))/\H' b=.arr 2 [[gi 0,gi 0]]/\T 2=gi t/\T 3=.aL (ag g) 0/\T 4=.aL (fI s) 0/\T 6=.ptr b 0 0/\T 8=gi i) ⟨λ_ j e h=>by omega,f,t2,t3,t4,t6,rfl⟩ ?_
 clear a f t2 t3 t4 t6 t7 f1 f2
 rintro i k2 D F m ⟨a,f,t2,t3,t4,t6,t8⟩
 simp(disch:=omega)only[↓wr,seval,wq,pj,t2,t3,t4,t6,t8,fI,aV]
 apply aj.dec<;>intro u
 .have n:s.bc[i]?=some (s.bc[i]'(by omega)):=aaB (by omega)
  generalize s.bc[i]'(by omega)=x at n
  simp(disch:=omega)only[↓wr,seval,wq,t2,t3,t4,t6,t8,ag]
  apply aj.eq<;>intro o
  .simp(disch:=omega)only[↓wr,seval,wq,t2,t3,t4,t6,t8,fI,aV,aaE,n,aaH,bu]
   refine jd (xs:=#[.int .i64 x.au,.int .i64 x.dot]) (ys:=#[.int .i64 (-1),.int .i64 1]) Tryz.underlying120 (by kernel_rfl) (by kernel_rfl) ?_ ?_ (oZ x ⟨-1,1⟩) (.inl ⟨rfl,rfl⟩) ?_
   .rfl
   .rfl
   rw[xP]
   simp(disch:=omega)only[↓wr,seval,wq]
   apply aj.dec<;>intro he
   .simp(disch:=omega)only[↓wr,seval,wq,t2,t3,t4,t6,t8,f]
    rw[iG,d]
    simp only
    rw[aaF ⟨o,he ▸ aaI n⟩]
    rfl
   .simp(disch:=omega)only[↓wr,seval,wq,t2,t3,t4,t6,t8]
    refine aG m (by omega) ⟨λ_ j e r c=>?_,f,t2,t3,t4,t6,rfl⟩
    rcases aa2 j i with h | h
    .exact a o j e h c
    .have:j=i:=by omega
     subst this
     rw[n] at c;simp at c;subst c;exact he
  .simp(disch:=omega)only[↓wr,seval,wq,t2,t3,t4,t6,t8]
   exact aG m (by omega) ⟨λh=>absurd h o,f,t2,t3,t4,t6,rfl⟩
 .simp(disch:=omega)only[↓wr,seval,wq,t6,f]
  rw[iG,d]
  simp only
  rw[aaD]
  .rfl
  .rintro⟨h1,C⟩
   obtain⟨j,r,e⟩:=abv.1 C
   exact a h1 j _ (by omega) (by rw[aaB r,e]) rfl
def OX (c:sk):List V:=[gi c.state,gi c.term,gi c.kind,gi c.au,gi c.other]
def l0 (l:List sk):List (List V):=l.map OX
theorem mW (l:List sk):(l0 l).length=l.length:=by simp[l0]
theorem JZ {h:aE} {u:V} {l:List sk} (b:aT h.view u 5 (l0 l)):cM h u (.aU (l0 l)):=by
 refine cM.own b rfl (λi _=>rfl) (λi j hi a=>?_)
 rw[mW] at hi
 have e:(l0 l).getD i []=OX l[i]:=by simp[l0,aaA,hi]
 rw[e] at a ⊢
 match j,a with
 | 0,_=>exact .val _
 | 1,_=>exact .val _
 | 2,_=>exact .val _
 | 3,_=>exact .val _
 | 4,_=>exact .val _
theorem DU {h:aE} {u v:V} {c:Cell} (hu:cM h u v):cM h (.bf [.agg [gi c.kind,gi c.n],u]) (.bf [.agg (dp c),v]):=.bf _ _ rfl λi hi=>by
 match i,hi with
 | 0,_=>exact Oc (.val _) (.val _)
 | 1,_=>exact hu
def pP:SC :=
 ae [ae [ab [aa 29 15,aa 30 13,aN 31 30,aQ 32 .lss 29 31],bX 32 (.exit 0)],.block 1 (ab [aa 35 14,aa 36 3,aa 37 4,aa 38 13,aa 39 15,aO 40 1 38 39,ak 41 40,aa 42 13,((some 43),.op (.idx 1 (.tmp 42) (.val (.val (.int .i64 0))))),ak 44 43,((some 45),.op (.build [(.val (.int .i64 0)),(.val (.int .i64 0)),(.val (.int .i64 0)),(.val (.int .i64 0)),(.val (.int .i64 0))] [(0,1,(.tmp 36)),(1,1,(.tmp 37)),(2,1,(.val (.val (.int .i64 5)))),(3,1,(.tmp 41)),(4,1,(.tmp 44))])),((some 46),.op (.bJ 1 5 [(.val (.int .i64 0)),(.val (.int .i64 0)),(.val (.int .i64 0)),(.val (.int .i64 0)),(.val (.int .i64 0))] [(0,(.tmp 45))])),fD 47 5 40 35 46,aa 14 47]),ab [aa 33 15,aF 34 .add 33 1,aa 15 34]]
def sw:SF:=⟨ae [ab [cF 5 0,cF 6 1,((some 10),.op (.alloc [(.val (.int .i64 0)),(.val (.int .i64 0))])),bT 11 1],ab [aZ 18 4 5,aZ 19 2 6,aa 20 4,bk 21 101 [18,19,20],((some 12),.op (.alloc [(.val (.int .i64 0)),(.val (.int .i64 0))])),cD 2 12 21],ab [aa 22 2,aa 23 4,bk 24 102 [22,23],aa 13 24],ae [ab [aa 25 13,aN 26 25,aF 27 .eql 26 0],bb 27 (ae [ab [aZ 28 2 12,cD 2 10 28,bT 11 1],.ret])],ab [bT 14 1],ae [ab [aR 15 1],bZ 0 pP],ab [aa 48 13,((some 49),.op (.idx 1 (.tmp 48) (.val (.val (.int .i64 0))))),ak 50 49,((some 51),.op (.build [(.val (.int .i64 0)),(.val (.int .i64 0))] [(0,1,(.val (.val (.int .i64 2)))),(1,1,(.tmp 50))])),((some 16),.op (.alloc [(.val (.int .i64 0)),(.val (.int .i64 0))])),cD 2 16 51],ae [ab [ao 52 0 12,ak 53 52,aF 54 .eql 53 0],bb 54 (ae [ab [aZ 55 2 16,aa 56 14,cD 2 10 55,aa 11 56],.ret])],ab [aZ 57 4 5,aa 58 13,((some 59),.op (.idx 1 (.tmp 58) (.val (.val (.int .i64 0))))),ak 60 59,aa 61 4,bk 62 103 [57,60,61],aa 17 62],ab [aa 63 14,aa 64 3,aa 65 4,aa 66 17,aa 67 13,((some 68),.op (.idx 1 (.tmp 67) (.val (.val (.int .i64 0))))),ak 69 68,((some 70),.op (.build [(.val (.int .i64 0)),(.val (.int .i64 0)),(.val (.int .i64 0)),(.val (.int .i64 0)),(.val (.int .i64 0))] [(0,1,(.tmp 64)),(1,1,(.tmp 65)),(2,1,(.tmp 66)),(3,1,(.tmp 69)),(4,1,(.val (.val (.int .i64 (-1)))))])),((some 71),.op (.bJ 1 5 [(.val (.int .i64 0)),(.val (.int .i64 0)),(.val (.int .i64 0)),(.val (.int .i64 0)),(.val (.int .i64 0))] [(0,(.tmp 70))])),fD 72 5 40 63 71,aa 14 72],ae [ab [aa 73 17],.block 2 (ae [ab [aF 75 .eql 73 1,aa 74 75],.cond (.tmp 74) (ae [ab [aZ 76 2 16,aa 77 14,cD 2 10 76,aa 11 77],.ret]) (ae [ab [aF 79 .eql 73 3,aa 78 79],bb 78 (ae [ab [((some 80),.op (.build [(.val (.int .i64 0)),(.val (.int .i64 0))] [])),aa 81 14,cD 2 10 80,aa 11 81],.ret])])])],ab [aZ 82 2 12,aa 83 14,cD 2 10 82,aa 11 83],.ret],
 [.cell 10 (some 2),.tmp 11],84⟩
theorem yp:aP Tryz.prog 49 [5,6]=some sw:=by kernel_rfl
theorem Em (l:List dz) (n:Int):(fA l n).length<=l.length:=by
 unfold fA;rw[aaJ];exact abJ _ _
theorem TX (g:af) (X:g.Ok) (s:aJ) (hs:aK s.bO/\aK s.bc) (l:List dz) (hl:l.length<=10000) (st t:Int):cK Tryz.prog 49 [.agg (ag g),.agg (fI s),.aU (nb l),gi st,gi t] (.bf [.agg (dp (fo g s l st t).1),.aU (l0 (fo g s l st t).2)]):=by
 refine cK.of (by
  intro v e;simp at e
  rcases e with rfl | rfl | rfl | rfl | rfl
  .exact bL _ (cd g)
  .exact bL _ (zN s)
  .exact Ns _
  .exact .val _
  .exact .val _) ?_
 have D:=PR g X s hs t
 have M:=(PN l hl t).pure
 have E:=Em l t
 refine aw.of mixed yp ?_
 simp only[ag,encS,fI] at D
 simp(disch:=omega)only[↓wr,seval,wq,sw,ag,encS,fI]
 intro b
 refine ax.pure D ?_
 unfold fo
 generalize iG g s t=x
 have Y:=bq.nil.new (n:=b) (H:=λ_=>dG.dead) rfl 2 [[gi 0,gi 0]]
 simp(disch:=omega)only[↓wr,seval,wq,dp]
 intro d F
 rw[set_set]
 have w:=Y.new (n:=d) (by simpa [View.set] using F) 2 [[gi x.kind,gi x.n]]
 clear Y
 generalize (View.set (λ_=>dG.dead) b (.arr 2 [[gi 0,gi 0]])).set d (.arr 2 [[gi x.kind,gi x.n]])=H1 at w ⊢
 refine ax.pure M ?_
 cases hr:fA l t with
 | nil =>
  have m:=w.is 0 rfl (by simp)
  have a:=w.is 1 rfl (by simp)
  simp(disch:=omega)only[↓wr,↓reduceIte,wq,Nat.reduceEqDiff,Nat.reduceAdd,Nat.reduceLT,Nat.reduceLeDiff,Int.reduceNeg,Int.reduceToNat,reduceCtorEq,encI]
  refine aj.eq (λ_=>?_) (λh=>absurd rfl h)
  simp(disch:=omega)only[↓wr,seval,wq,m,a]
  intro f _
  exact DU (.emp _)
 | cons r rs =>
  rw[hr] at E
  simp only[aaN] at E
  simp(disch:=omega)only[↓wr,seval,wq,encI]
  refine aj.eq (λh=>absurd h (by simp;omega)) (λ_=>?_)
  simp(disch:=omega)only[↓wr,seval,wq,encI]
  refine ba.up rs.length (λj T H'=>∃ u:V,bq H' [(u,5,l0 (kR st t r (rs.take j))),(.sl d 0 1 2,2,[[gi x.kind,gi x.n]]),(.sl b 0 1 2,2,[[gi 0,gi 0]])]/\T 3=gi st/\T 4=gi t/\T 5=.aL (ag g) 0/\T 10=.ptr b 0 0/\T 12=.ptr d 0 0/\T 13=encI (r :: rs)/\T 14=u/\T 15=gi ((j:Int)+1)) ⟨.emp 1,w.emp,rfl,rfl,rfl,rfl,rfl,rfl,rfl,rfl⟩ ?_
  clear w
  rintro j k T H hk ⟨u,G,t3,t4,t5,t10,t12,t13,t14,t15⟩
  simp(disch:=omega)only[↓wr,seval,wq,pP,t3,t4,t5,t10,t12,t13,t14,t15,encI]
  apply aj.dec<;>intro hc
  .have N:rs[j]?=some (rs[j]'(by omega)):=aaB (by omega)
   generalize rs[j]'(by omega)=y at N
   have O:([gi r] :: rs.map λx=>[gi x])[((j:Int)+1).toNat]?=some [gi y]:=by rw[show ((j:Int)+1).toNat=j+1 by omega];simp[N]
   have P:kR st t r (rs.take (j+1))=kR st t r (rs.take j) ++ [⟨st,t,5,y,r⟩]:=by
    rw[aa3,N];simp[kR]
   simp(disch:=omega)only[↓wr,seval,wq,t3,t4,t5,t10,t12,t13,t14,t15,encI,O,aa5]
   intro q Q
   simp(disch:=omega)only[↓wr,seval,wq,bz]
   refine b6 (G.fresh Q) (by simp[aI]) (by unfold aC;rw[mW];simp[kR];omega) (by unfold aC;rw[mW];simp[kR];omega) ?_
   intro L H2 w _
   simp(disch:=omega)only[↓wr,seval,wq,t3,t4,t5,t10,t12,t13,t14,t15]
   exact aG hk (by omega) ⟨L,by rw[P,l0,aaW];exact w,t3,t4,t5,t10,t12,t13,rfl,rfl⟩
  .rw[aaS (by omega)] at G
   simp(disch:=omega)only[↓wr,seval,wq,t3,t4,t5,t10,t12,t13,t14,t15,encI,aa5]
   intro z i
   rw[set_set]
   have C:=G.new i 2 [[gi 2,gi r]]
   have p:=G.is 1 rfl (by simp)
   have n12:¬ d=z:=by rintro rfl;rw[p] at i;simp at i
   clear G
   simp(disch:=omega)only[↓wr,seval,wq,n12,p]
   generalize H.set z (.arr 2 [[gi 2,gi r]])=H2 at C ⊢
   have A:=C.is 0 rfl (by simp)
   have m:=C.is 2 rfl (by simp)
   have a:=C.is 3 rfl (by simp)
   apply aj.eq<;>intro R
   .simp(disch:=omega)only[↓wr,seval,wq,t10,t12,t14,A,a]
    rintro f e
    rw[aaF R]
    have I:=(C.at 3 (by simp)).put (es':=[[gi 2,gi r]]) rfl rfl
    simp only[abi,abf,abg,abh] at I
    rw[<-e] at I
    exact DU (c:=⟨2,r⟩) (JZ (I.own 2 rfl))
   .have J:=Mn g X r t
    simp only[ag,encS] at J
    simp(disch:=omega)only[↓wr,seval,wq,t3,t4,t5,t10,t12,t13,t14,encI,aa5,ag,encS]
    refine ax.pure J ?_
    rw[aaD R]
    generalize mK g r t=B
    simp(disch:=omega)only[↓wr,seval,wq,t3,t4,t5,t10,t12,t13,t14,encI,aa5]
    intro q Q
    simp(disch:=omega)only[↓wr,seval,wq,bz]
    have I:=(C.fresh (o:=.arr 5 [[gi st,gi t,gi B,gi r,gi (-1)]]) Q).at 1 (by simp)
    refine b6 I (by simp[aI]) (by unfold aC;simp only[abi,abf,mW];simp[kR];omega) (by unfold aC;simp only[abi,abf,mW];simp[kR];omega) ?_
    intro L Z K _
    simp only[abi,abf,abg,abh] at K
    have A:=K.is 1 rfl (by simp)
    have m:=K.is 2 rfl (by simp)
    have a:=K.is 3 rfl (by simp)
    have o6:bq Z ((L,5,l0 (kR st t r rs ++ [⟨st,t,B,r,-1⟩])) :: [(.sl z 0 1 2,2,[[gi 2,gi r]]),(.sl d 0 1 2,2,[[gi x.kind,gi x.n]]),(.sl b 0 1 2,2,[[gi 0,gi 0]])]):=by
     rw[l0,aaW];exact K
    have fin:∀ (c:Cell) (f:aE),f.view=Z.set b (.arr 2 [dp c])->cM f (.bf [.agg [gi c.kind,gi c.n],L]) (.bf [.agg (dp c),.aU (l0 (kR st t r rs ++ [⟨st,t,B,r,-1⟩]))]):=λc f e=>by
     have S:=(o6.at 3 (by simp)).put (es':=[dp c]) rfl rfl
     simp only[abi,abf,abg,abh] at S
     rw[<-e] at S
     exact DU (JZ (S.own 1 rfl))
    simp(disch:=omega)only[↓wr,seval,wq,t10,t12]
    apply aj.eq<;>intro U
    .simp(disch:=omega)only[↓wr,seval,wq,t10,A,a]
     rw[aaF U]
     exact λf e=>fin ⟨2,r⟩ f e
    .simp(disch:=omega)only[↓wr,seval,wq,t10]
     rw[aaD U]
     apply aj.eq<;>intro W
     .simp(disch:=omega)only[↓wr,seval,wq,t10,a]
      rw[aaF W]
      exact λf e=>fin ⟨0,0⟩ f e
     .simp(disch:=omega)only[↓wr,seval,wq,t10,t12,m,a]
      rw[aaD W]
      exact λf e=>fin x f e
def pn:SC :=
 ae [ae [ab [aa 40 13,ao 41 0 1,ak 42 41,aN 43 42,aQ 44 .leq 40 43],bX 44 (.exit 2)],.block 3 (ae [.rL [] [⟨none,[aZ 48 4 1,aa 49 5,aa 50 11,aO 51 2 49 50,aZ 52 2 51,aa 53 7,aa 54 11,aO 55 1 53 54,ak 56 55,aa 57 11,aa 58 13,bk 59 49 [48,52,56,57,58],aa 47 59,dr 60 0 47,dr 61 1 47,((some 14),.op (.alloc [(.val (.int .i64 0)),(.val (.int .i64 0))])),cD 2 14 60,aa 15 61]⟩],ab [aa 62 12,aZ 63 2 14,((some 64),.op (.bJ 1 2 [(.val (.int .i64 0)),(.val (.int .i64 0))] [(0,(.tmp 63))])),fD 65 2 16 62 64,aa 12 65],ab [aa 66 10,aa 67 15,fD 68 5 40 66 67,aa 10 68]]),ab [aa 45 13,aF 46 .add 45 1,aa 13 46]]
def po:SC :=
 ae [ae [ab [aa 69 17,ao 70 1 1,ak 71 70,aN 72 71,aQ 73 .lss 69 72],bX 73 (.exit 4)],.block 5 (ae [ab [aa 77 5,aa 78 11,aa 79 17,((some 80),.op (.arith .sub (.val (.val (.int .i64 (-1)))) (.tmp 79))),((some 81),.op (.bJ 1 1 [(.val (.int .i64 0))] [(0,(.tmp 80))])),bk 82 33 [77,78,81],aa 76 82,dr 83 0 76,dr 84 1 76,aa 18 83,aa 19 84],ae [ab [aa 85 19,c9 86 85],bb 86 (ab [aR 18 (-1)])],ab [aa 87 16,aa 88 18,((some 89),.op (.bJ 1 1 [(.val (.int .i64 0))] [(0,(.tmp 88))])),fD 90 1 8 87 89,aa 16 90]]),ab [aa 74 17,aF 75 .add 74 1,aa 17 75]]
def oL:SC :=
 ae [ae [ab [aa 34 11,aa 35 5,aN 36 35,aQ 37 .lss 34 36],bX 37 (.exit 0)],.block 1 (ae [ab [bT 12 1],ae [ab [aR 13 0],bZ 2 pn],ab [bT 16 1],ae [ab [aR 17 0],bZ 4 po],.rL [(96,92)] [⟨none,[ao 91 0 9,ak 92 91,aa 93 12,((some 94),.op (.bJ 1 1 [(.emp 1)] [(0,(.tmp 93))])),fD 95 1 24 92 94,ao 96 1 9,ak 97 96,aa 98 16,((some 99),.op (.bJ 1 1 [(.emp 1)] [(0,(.tmp 98))])),fD 100 1 24 97 99,ao 101 0 9,cD 1 101 95,ao 102 1 9,cD 1 102 100]⟩]]),ab [aa 38 11,aF 39 .add 38 1,aa 11 39]]
def qP:SF:=⟨ae [ab [cF 1 0,((some 2),.op (.alloc [(.emp 1),(.emp 1)])),bT 3 1,aR 4 0],ab [aZ 21 4 1,bk 22 32 [21],aa 20 22,dr 23 0 20,dr 24 1 20,aa 5 23,aa 6 24],ae [ab [aa 25 6,aF 26 .neq 25 0],bb 26 (ae [ab [((some 27),.op (.build [(.emp 1),(.emp 1)] [])),aa 28 6,cD 2 2 27,bT 3 1,aa 4 28],.ret])],ab [aZ 30 4 1,bk 31 48 [30],aa 29 31,dr 32 0 29,dr 33 1 29,aa 7 32,aa 8 33],ab [((some 9),.op (.alloc [(.emp 1),(.emp 1)]))],ab [bT 10 1],ae [ab [aR 11 0],bZ 0 oL],ab [aZ 103 2 9,aa 104 10,cD 2 2 103,aa 3 104,aR 4 0],.ret],
 [.cell 2 (some 2),.tmp 3,.tmp 4],105⟩
theorem xw:aP Tryz.prog 16 [1,100000]=some qP:=by kernel_rfl
theorem Vh {g:af} {a:List aJ} {ls:List (List ay)} (b:aY g a=ls) (c:∀ l∈ls,l.length<=10000/\∀ x∈l,cw g x) (i:Nat):(fG g a i).length<=10000:=by
 unfold fG
 refine abx (List.length_filterMap_le _ _) ?_
 rw[b,aaA]
 cases h:ls[i]? with
 | none=>simp
 | some l=>exact(c l (aaI h)).1
theorem EG (g:af) (s:aJ) (l:List dz) (st t:Int):(fo g s l st t).2.length<=l.length:=by
 have:=Em l t
 unfold fo
 cases h:fA l t with
 | nil=>simp
 | cons r rs =>
  rw[h] at this
  simp only[aaN] at this
  simp only
  split
  .simp[kR];omega
  .simp[kR];omega
theorem PW (g:af) (s:aJ) (l:List dz) (st:Int) (n:Nat):iU g s l st (n+1)=iU g s l st n ++ [(fo g s l st n).1]:=by simp[iU,abH]
theorem Hl (g:af) (s:aJ) (l:List dz) (st:Int) (n:Nat):wT g s l st (n+1)=wT g s l st n ++ (fo g s l st n).2:=by simp[wT,abH]
theorem DK {g:af} {s:aJ} {l:List dz} {st:Int} (a:l.length<=10000):∀ n:Nat,(wT g s l st n).length<=n * 10000
 | 0=>by simp[wT]
 | n+1=>by
  have h1:=DK (g:=g) (s:=s) (st:=st) a n
  have b:=EG g s l st n
  rw[Hl,aa4]
  omega
theorem Ir (g:af) (a:List aJ) (l:List (List dz)) (n:Nat):j0 g a l (n+1)=j0 g a l n ++ wT g (a.getD n bC) (l.getD n []) n (g.ai.length+1):=by simp[j0,abH]
theorem KE {g:af} {a:List aJ} {l:List (List dz)} (b:∀ i,(l.getD i []).length<=10000) (c:g.ai.length<=24):∀ n:Nat,(j0 g a l n).length<=n * 250000
 | 0=>by simp[j0]
 | n+1=>by
  have h1:=KE (a:=a) b c n
  have d:=DK (g:=g) (s:=a.getD n bC) (st:=n) (b n) (g.ai.length+1)
  rw[Ir,aa4]
  omega
theorem Yz (l:List sk):((l0 l).all λe=>e.length == 5 && e.all aI)=true:=by simp[l0,acg,OX,aI]
theorem Hb {h:aE} {u v s t w x:V} {e:Int} (h1:cM h u s) (a:cM h v t) (b:cM h w x):cM h (.bf [.agg [u,v],w,gi e]) (.bf [.agg [s,t],x,gi e]):=.bf _ _ rfl λi hi=>by
 match i,hi with
 | 0,_=>exact Oc h1 a
 | 1,_=>exact b
 | 2,_=>exact .val _
theorem XW {α:Type} {X Y:α} {C I:List α} : (Y :: X :: (C ++ I)).Perm ((C ++ [X]) ++ (I ++ [Y])):=by
 rw[<-abl]
 refine .trans (.cons Y ?_) (acu Y _).symm
 rw[abl]
 exact abF.symm
theorem V6 {α:Type} {b u a k r c d:α} {C I:List α} : (b :: u :: a :: k :: r :: c :: d :: (C ++ I)).Perm (a :: u :: c :: b :: d :: ((C ++ [r]) ++ (I ++ [k]))) :=
 (abF (a:=a) (l₁:=[b,u])).trans (.cons a ((abF (a:=u) (l₁:=[b])).trans (.cons u ((abF (a:=c) (l₁:=[b,k,r])).trans (.cons c (.cons b ((abF (a:=d) (l₁:=[k,r])).trans (.cons d (XW (Y:=k) (X:=r) (C:=C) (I:=I))))))))))
theorem Pe (g:af) (hg:g.Ok):cK Tryz.prog 16 [.agg (ag g)] (.bf [.agg (cW (yx g).1),.aU (l0 (yx g).2.1),gi (yx g).2.2]):=by
 refine cK.of (eK g) ?_
 have hB:=(Fe g hg).pure
 have hO:=(W7 g hg).pure
 refine aw.of mixed xw ?_
 simp only[ag,encS] at hB hO
 simp(disch:=omega)only[↓wr,seval,wq,qP,ag,encS]
 intro u
 refine ax.pure hB ?_
 unfold yx
 simp(disch:=omega)only[↓wr,seval,wq]
 apply aj.ne<;>intro h
 .simp(disch:=omega)only[↓wr,seval,wq]
  intro h' _
  rw[aaD h]
  exact Hb (.emp _) (.emp _) (.emp _)
 rw[aaF h]
 unfold yJ at hO ⊢
 rw[aaF h] at hO ⊢
 obtain⟨hW,hA⟩:=Eo hg h
 have hlen:=Vh rfl hW.item
 generalize (aS g).1=a at *
 clear hB h
 have hf:=bj hW.right
 have b8:=hW.short
 have hT:=hf.ai
 have hN:=hf.al
 have N:∀ i:Nat,i < a.length->(fy g a)[i]?=some (fG g a i):=λi hi=>by rw[fy,aaE,aby hi];rfl
 have ch:(fy g a).length=a.length:=by simp[fy]
 have ar:∀ i:Nat,((fy g a).getD i []).length<=10000:=λi=>by
  rw[aaA]
  rcases aa2 i a.length with hi | hi
  .rw[N i hi];exact hlen i
  .rw[aa6 (by omega)];simp
 generalize fy g a=L at *
 simp(disch:=omega)only[↓wr,seval,wq,ag,encS]
 refine ax.pure hO ?_
 simp(disch:=omega)only[↓wr,seval,wq]
 intro v C
 have o0:=(bq.nil.new (n:=u) (H:=λ_=>dG.dead) rfl 2 [[.emp 1,.emp 1]]).new (n:=v) (by simpa [View.set] using C) 2 [[.emp 1,.emp 1]]
 have cc:v≠u:=(cq C cm).1
 have r:=(((o0.emp (k:=1) (sz:=5)).emp (k:=1) (sz:=1)).emp (k:=1) (sz:=1))
 clear o0
 generalize (View.set (λ_=>dG.dead) u (.arr 2 [[.emp 1,.emp 1]])).set v (.arr 2 [[.emp 1,.emp 1]])=H0 at r ⊢
 refine ba.up a.length (λi T H'=>∃ (w y e:V) (A:O4) (G:WB),A.map (·.2)=(iM g a L i).bo/\G.map (·.2)=(iM g a L i).gotos /\
  bq H' ((w,1,ez A) :: (y,1,ez G) :: (e,5,l0 (j0 g a L i)) :: (.sl v 0 1 2,2,[[w,y]]) :: (.sl u 0 1 2,2,[[.emp 1,.emp 1]]) :: (Qt A ++ PK G))/\T 1=.aL (ag g) 0/\T 2=.ptr u 0 0/\T 5=bI a/\T 7=yb L/\T 9=.ptr v 0 0/\T 10=e/\T 11=gi i)
  ⟨.emp 1,.emp 1,.emp 1,[],[],rfl,rfl,r,rfl,rfl,rfl,rfl,rfl,rfl,rfl⟩ ?_
 clear r C
 rintro i k T H hk ⟨w,y,e,A,G,D,E,b,t1,t2,t5,t7,t9,t10,t11⟩
 simp(disch:=omega)only[↓wr,seval,wq,oL,t1,t2,t5,t7,t9,t10,t11,bI]
 apply aj.dec<;>intro hc
 .have hs:a[i]?=some (a.getD i bC):=getD_some (by omega)
  have hl:=N i (by omega)
  have O:=hlen i
  obtain⟨k1,k2,k3⟩:=hA.bc _ (aaI hs)
  have hE:=hA.bO _ (aaI hs)
  have cj:=gR hf k1 k3
  have P:L.getD i []=fG g a i:=by rw[aaA,hl];rfl
  have z:=Ir g a L i
  have cu:=KE (g:=g) (a:=a) (l:=L) ar hT i
  have m:(iM g a L (i+1)).bo=(iM g a L i).bo ++ [iU g (a.getD i bC) (fG g a i) i (g.ai.length+1)]/\(iM g a L (i+1)).gotos=(iM g a L i).gotos ++ [Ca g a i]:=by
   simp only[iM,abH,aaW,aa9,acb,P,and_self]
  rw[P] at z
  generalize fG g a i=d at *
  generalize a.getD i bC=s at *
  simp(disch:=omega)only[↓wr,seval,wq,t1,t2,t5,t7,t9,t10,t11]
  generalize a1:((.sl v 0 1 2,2,[[w,y]]) :: (.sl u 0 1 2,2,[[.emp 1,.emp 1]]) :: (Qt A ++ PK G):List dH)=BB at b
  refine ba.up (g.ai.length+1) (λj T H'=>∃ (B e:V),bq H' ((B,2,(iU g s d i j).map dp) :: (e,5,l0 (j0 g a L i ++ wT g s d i j)) :: (w,1,ez A) :: (y,1,ez G) :: BB)/\T 1=.aL (ag g) 0/\T 2=.ptr u 0 0/\T 5=bI a/\T 7=yb L/\T 9=.ptr v 0 0/\T 10=e/\T 11=gi i/\T 12=B/\T 13=gi j)
   ⟨.emp 1,e,by rw[show wT g s d i 0=[] from rfl,abS];exact(b.perm DQ.symm).emp,t1,t2,t5,t7,t9,t10,t11,rfl,rfl⟩ ?_
  clear b t1 t2 t5 t7 t9 t10 t11
  clear e
  rintro j k2 T2 H2 a6 ⟨B,e,b,t1,t2,t5,t7,t9,t10,t11,t12,t13⟩
  simp(disch:=omega)only[↓wr,seval,wq,pn,t1,t2,t5,t7,t9,t10,t11,t12,t13,ag]
  apply aj.dec<;>intro a7
  .have Q:=(TX g hg s ⟨by unfold aK;omega,by unfold aK;omega⟩ d O i j).pure
   have a8:=EG g s d i j
   have cv:=DK (g:=g) (s:=s) (st:=i) O j
   have r1:=PW g s d i j
   have r2:=Hl g s d i j
   have F:(iU g s d i j).length=j:=by simp[iU]
   generalize fo g s d i j=ce at *
   obtain⟨c,cf⟩:=ce
   simp only[ag,encS,fI,dp] at Q
   simp(disch:=omega)only[↓wr,seval,wq,t1,t2,t5,t7,t9,t10,t11,t12,t13,ag,encS,bI,yb,aaE,hs,hl,aaH,fI]
   refine ax.pure Q ?_
   simp(disch:=omega)only[↓wr,seval,wq,t1,t2,t5,t7,t9,t10,t11,t12,t13]
   intro cA R
   intro q S
   obtain⟨q1,q2⟩:=cq S cm
   have q3:=(cq q2 cm).2
   simp(disch:=omega)only[↓wr,seval,wq,bz,t1,t2,t5,t7,t9,t10,t11,t12,t13]
   have r:=(b.fresh R (o:=.arr 2 [[gi c.kind,gi c.n]])).fresh (n:=q) (o:=.arr 2 [[gi c.kind,gi c.n]]) (by simp[View.set,q1,q3])
   rw[set_set]
   refine b6 r (by simp[aI]) (by unfold aC;rw[aaJ,F];simp only[aaN,aa8];omega) (by unfold aC;rw[aaJ,F];simp only[aaN,aa8];omega) ?_
   intro bd H5 U _
   simp(disch:=omega)only[↓wr,seval,wq,t1,t2,t5,t7,t9,t10,t11,t12,t13]
   simp only at a8
   refine b6 (U.perm (.swap _ _ _)) (Yz cf) (by unfold aC;rw[mW,mW,aa4];omega) (by unfold aC;rw[mW,mW,aa4];omega) ?_
   intro bl H6 I _
   simp(disch:=omega)only[↓wr,seval,wq,t1,t2,t5,t7,t9,t11,t13]
   refine aG a6 (by omega) ⟨bd,bl,?_,t1,t2,t5,t7,t9,rfl,t11,rfl,rfl⟩
   rw[r1,r2]
   have t:=I.perm (.swap _ _ _)
   rw[show (iU g s d i j ++ [c]).map dp=(iU g s d i j).map dp ++ [[gi c.kind,gi c.n]] by simp[dp],<-abl,l0,aaW]
   exact t
  .have bn:j=g.ai.length+1:=by omega
   subst bn
   have F:(iU g s d i (g.ai.length+1)).length=g.ai.length+1:=by simp[iU]
   rw[<-z] at b
   simp(disch:=omega)only[↓wr,seval,wq,t1,t2,t5,t7,t9,t10,t11,t12]
   refine ba.up g.al.length (λj T H'=>∃ (M:V),bq H' ((M,1,bH ((List.range j).map λ(k:Nat)=>pI a i k)) :: (B,2,(iU g s d i (g.ai.length+1)).map dp) :: (e,5,l0 (j0 g a L (i+1))) :: (w,1,ez A) :: (y,1,ez G) :: BB)/\T 1=.aL (ag g) 0/\T 2=.ptr u 0 0/\T 5=bI a/\T 7=yb L/\T 9=.ptr v 0 0/\T 10=e/\T 11=gi i/\T 12=B/\T 16=M/\T 17=gi j)
    ⟨.emp 1,b.emp,t1,t2,t5,t7,t9,t10,t11,t12,rfl,rfl⟩ ?_
   clear b t1 t2 t5 t7 t9 t10 t11 t12 t13
   rintro j k3 T4 H4 W ⟨M,b,t1,t2,t5,t7,t9,t10,t11,t12,t16,t17⟩
   simp(disch:=omega)only[↓wr,seval,wq,po,t1,t2,t5,t7,t9,t10,t11,t12,t16,t17,ag,encS]
   apply aj.dec<;>intro X
   .have br:=HN a (by unfold aK;omega) hW.bO i [-1 - (j:Int)] (by unfold aK;simp)
    have Y:(List.range (j+1)).map (λ(k:Nat)=>pI a i k)=(List.range j).map (λ(k:Nat)=>pI a i k) ++ [pI a i j]:=by rw[abH,aaW];rfl
    have f:pI a i j=if (ef a i [-1 - (j:Int)]).2=true then (ef a i [-1 - (j:Int)]).1 else -1:=rfl
    simp(disch:=omega)only[↓wr,seval,wq,t1,t2,t5,t7,t9,t10,t11,t12,t16,t17]
    intro q S
    refine ax.B5 br (by kernel_rfl) (.bf _ λj hj=>by
     match j,hj with
     | 0,_=>exact⟨_,rfl⟩
     | 1,_=>exact⟨_,rfl⟩) ⟨.tree (lj a),.tree (.val _),yR (l:=[-1 - (j:Int)]) (by simp[View.set]) rfl,trivial⟩ ?_
    have r:=b.fresh (o:=.arr 1 [[gi (-1 - (j:Int))]]) S
    generalize H4.set q (.arr 1 [[gi (-1 - (j:Int))]])=H5 at r ⊢
    generalize ef a i [-1 - (j:Int)]=wk at f ⊢
    obtain⟨to,bs⟩:=wk
    simp only at f
    simp(disch:=omega)only[↓wr,seval,wq,t1,t2,t5,t7,t9,t10,t11,t12,t16,t17]
    cases bs with
    | true =>
     rw[aaF rfl] at f
     simp(disch:=omega)only[↓wr,seval,wq,t1,t2,t5,t7,t9,t10,t11,t12,t16,t17]
     intro q2 p
     simp(disch:=omega)only[↓wr,seval,wq,bz,t1,t2,t5,t7,t9,t10,t11,t12,t16,t17]
     refine b6 (r.fresh p) (by simp[aI]) (by unfold aC;simp;omega) (by unfold aC;simp;omega) ?_
     intro J H6 I _
     simp(disch:=omega)only[↓wr,seval,wq,t1,t2,t5,t7,t9,t10,t11,t12,t17]
     refine aG W (by omega) ⟨J,?_,t1,t2,t5,t7,t9,t10,t11,t12,rfl,rfl⟩
     rw[Y,f,bH,aaW]
     exact I
    | false =>
     rw[aaD (by simp)] at f
     simp(disch:=omega)only[↓wr,seval,wq,t1,t2,t5,t7,t9,t10,t11,t12,t16,t17]
     intro q2 p
     simp(disch:=omega)only[↓wr,seval,wq,bz,t1,t2,t5,t7,t9,t10,t11,t12,t16,t17]
     refine b6 (r.fresh p) (by simp[aI]) (by unfold aC;simp;omega) (by unfold aC;simp;omega) ?_
     intro J H6 I _
     simp(disch:=omega)only[↓wr,seval,wq,t1,t2,t5,t7,t9,t10,t11,t12,t17]
     refine aG W (by omega) ⟨J,?_,t1,t2,t5,t7,t9,t10,t11,t12,rfl,rfl⟩
     rw[Y,f,bH,aaW]
     exact I
   .have Z:j=g.al.length:=by omega
    subst Z
    have b:bq H4 ((M,1,bH (Ca g a i)) :: (B,2,(iU g s d i (g.ai.length+1)).map dp) :: (e,5,l0 (j0 g a L (i+1))) :: (w,1,ez A) :: (y,1,ez G) :: BB):=b
    have lA:=abN List.length D
    have lG:=abN List.length E
    simp only[iM,aaJ,List.length_range] at lA lG
    subst a1
    have h9:=b.is 5 rfl (by simp)
    have ca:=(b.own 3 rfl).cells
    have cr:=(b.own 1 rfl).cells
    have kr:=(b.own 1 rfl).fL
    have ck:=(b.own 0 rfl).cells
    have kk:=(b.own 0 rfl).fL
    simp(disch:=omega)only[↓wr,seval,wq,t1,t2,t5,t7,t9,t10,t11,t12,t16,h9,cr,kr,ck,kk]
    intro q S
    simp(disch:=omega)only[↓wr,seval,wq,bz,t1,t2,t5,t7,t9,t10,t11,t12,t16]
    have o4:=(b.fresh (o:=.arr 1 [[B]]) S).at 3 (by simp)
    refine b6 o4 (by simp[kr]) (by unfold aC;simp[ez];omega) (by unfold aC;simp[ez];omega) ?_
    intro an H5 U _
    simp only[abi,abf,abg,abh] at U
    have bx:=U.is 5 rfl (by simp)
    simp(disch:=omega)only[↓wr,seval,wq,t1,t2,t5,t7,t9,t10,t11,t12,t16,bx,cr,kr,ck,kk]
    intro q2 p
    simp(disch:=omega)only[↓wr,seval,wq,bz,t1,t2,t5,t7,t9,t10,t11,t12,t16]
    have I:=(U.fresh (o:=.arr 1 [[M]]) p).at 4 (by simp)
    refine b6 I (by simp[kk]) (by unfold aC;simp[ez];omega) (by unfold aC;simp[ez];omega) ?_
    intro aq H6 t _
    simp only[abi,abf,abg,abh] at t
    have b0:=t.is 5 rfl (by simp)
    have b1:=(t.own 1 rfl).cells
    have b3:=(t.own 1 rfl).fL
    have b4:=(t.own 0 rfl).cells
    have b5:=(t.own 0 rfl).fL
    simp(disch:=omega)only[↓wr,seval,wq,t1,t2,t5,t7,t9,t10,t11,b0,b1,b3,b4,b5]
    refine⟨Xk (b.own 3 rfl) ((b.at 5 (by simp)).off rfl _ (aaI (i:=3) rfl)),?_⟩
    rw[set_set]
    refine aG hk (by omega) ⟨an,aq,e,A ++ [(B,iU g s d i (g.ai.length+1))],G ++ [(M,Ca g a i)],?_,?_,?_,t1,t2,t5,t7,t9,t10,rfl⟩
    .rw[aaW,D,m.1];rfl
    .rw[aaW,E,m.2];rfl
    .have o8:=(t.at 5 (by simp)).put (es':=[[an,aq]]) rfl rfl
     simp only[abi,abf,abg,abh] at o8
     simp only[ez,Qt,PK,aaW,aa9,acb]
     exact o8.perm V6
 .have b7:i=a.length:=by omega
  subst b7
  have h9:=b.is 3 rfl (by simp)
  have h2:=b.is 4 rfl (by simp)
  have ca:=(b.own 0 rfl).cells
  have ka:=(b.own 0 rfl).fL
  have cg:=(b.own 1 rfl).cells
  have kg:=(b.own 1 rfl).fL
  simp(disch:=omega)only[↓wr,seval,wq,t2,t9,t10,h9,h2,ca,ka,cg,kg]
  intro h' hv
  have K:=(b.at 4 (by simp)).put (es':=[[w,y]]) rfl rfl
  simp only[abi,abf,abg,abh] at K
  rw[<-hv] at K
  unfold cW
  rw[<-D,<-E]
  refine Hb (QW (K.own 1 rfl) λx hx=>K.1 (x.1,2,x.2.map dp) ?_) (Vr.frn ⟨G,rfl,K.own 2 rfl,λx hx=>K.1 (x.1,1,bH x.2) ?_⟩) (JZ (K.own 3 rfl))
  .simp only[aaT,aa1]
   exact .inr (.inr (.inr (.inr (.inr (.inl (aaX.2 ⟨x,hx,rfl⟩))))))
  .simp only[aaT,aa1]
   exact .inr (.inr (.inr (.inr (.inr (.inr (aaX.2 ⟨x,hx,rfl⟩))))))
inductive kF (P:Program) (d:Nat) (xs ys:Array Value):List Field->Bool->Prop
 | nil:kF P d xs ys [] true
 | any (f:Field) (l:List Field) (c e:Bool) (a b:Value):(f.name≠ "_")->bw P (part f.type xs f.offset)=some a->bw P (part f.type ys f.offset)=some b->bw P (Op.equalIn (d+1) f.type a b)=some e->kF P d xs ys l c->kF P d xs ys (f :: l) (e && c)
theorem kF.forIn {P:Program} {d e:Nat} {xs ys:Array Value} {l:List Field} {c:Bool} (h:kF P d xs ys l c) (g:e=d+1) :
  bw P (forIn l ((none:Option Bool),()) λf _ =>
   if f.name≠ "_" then do
    let a <-part f.type xs f.offset
    let b <-part f.type ys f.offset
    let e <-Op.equalIn e f.type a b
    if (!e)=true then pure (ForInStep.done (some false,())) else pure (ForInStep.yield (none,()))
   else pure (ForInStep.yield (none,())))=some (if c=true then (none,()) else (some false,())):=by
 subst g
 induction h with
 | nil=>rfl
 | any f l c e a b i j k he _ m =>
  rw[List.forIn_cons,bm,aaF i,bm,j,abe,bm,k,abe,bm,he,abe]
  cases e with
  | false=>rfl
  | true=>exact m
theorem xV {P:Program} {d:Nat} {t:TypeId} {b:Array Field} {xs ys:Array Value} {c:Bool} (hu:P.underlying t=some (.struct b)) (f:P.stoodInHeld t=false) (h:kF P d xs ys b.toList c) :
  bw P (Op.equalIn (d+1+1) t (.agg xs) (.agg ys))=some c:=by
 rw[Op.equalIn,bm,ep hu,abe]
 have a:(bw P program)=some P:=rfl
 rw[bm,a,abe,f]
 simp only[<-Array.forIn_toList,aba,if_false]
 rw[bm,h.forIn (e:=d+1) rfl,abe]
 cases c <;> rfl
theorem xy {P:Program} {d:Nat} {t:TypeId} {k:IntKind} (hu:P.underlying t=some (.int k)) (a b:Int):bw P (Op.equalIn (d+1) t (.int k a) (.int k b))=some (a == b):=by
 simp only[Op.equalIn,bm,ep hu,abe];rfl
theorem W6 {κ:Type} [BEq κ] {P:Program} {kt:TypeId} {kv:κ->V} (val:κ->Value) {n:Array Field} (l:∀ k,dJ (kv k)=some (val k)) (hu:P.underlying kt=some (.struct n))
  (heq:∀ a b,bw P (Op.equal kt (val a) (val b))=some (a == b)) (c:∀ k e,bw P (Instr.checkKey e 10000 kt (val k))=some ()) (o:∀ k,sameKey (kv k) (kv k)=true):GX P kt kv where
 same:=o
 find:=by
  have d:∀ m:cZ κ,iT (dx kv m)=some (m.map λx=>{ key:=val x.1,val:=.nilFunc,born:=x.2.2 }):=by
   intro m
   induction m with
   | nil=>rfl
   | cons x r g =>
    simp only[dx] at g
    simp[dx,iT,l,g]
  have f:∀ (k:κ) (m:cZ κ) (i:Nat),bw P (Instr.findAsking kt (val k) (m.map λx=>{ key:=val x.1,val:=.nilFunc,born:=x.2.2 }) i)=some ((ig k m).map λj=>(i+j,.nilFunc)):=by
   intro k m
   induction m with
   | nil=>intro i;rfl
   | cons x r g =>
    intro i
    simp only[aa9,Instr.findAsking,bm,heq,abe,ig]
    cases hk:k == x.1 with
    | true=>simp[Lf]
    | false =>
     simp only[aba,if_false,g (i+1),Option.map_map]
     congr 2
     funext j
     simp only[Function.comp]
     congr 1
     omega
  intro k e m
  have h:bw P (underlying kt)=some _:=ep hu
  simp only[n0,l,d,bm,c,abe]
  have:bw P (Instr.findKey kt (val k) (m.map λx=>{ key:=val x.1,val:=.nilFunc,born:=x.2.2 }))=some ((ig k m).map λj=>(0+j,.nilFunc)):=by
   unfold Instr.findKey
   rw[bm,h,abe]
   cases m with
   | nil=>rfl
   | cons x r=>exact f k (x :: r) 0
  rw[this]
  cases ig k m with
  | none=>rfl
  | some j=>simp
abbrev zd:=Int × Int × Int
def u9 (x:zd):V:=.agg [gi x.1,gi x.2.1,gi x.2.2]
def AE (x:zd):Value:=.agg #[.int .i64 x.1,.int .i64 x.2.1,.int .i64 x.2.2]
def jj (x:bQ):zd:=((x.st:Int),x.it.au,x.it.dot)
theorem HD (x y:bQ):(jj x == jj y)=tO x y:=by
 obtain⟨s,⟨r,d⟩,a,b⟩:=x
 obtain⟨f,⟨g,h⟩,i,j⟩:=y
 rw[abD]
 simp[jj,tO]
 constructor
 .rintro⟨h1,c,e⟩;exact⟨by omega,c.symm,e.symm⟩
 .rintro⟨h1,c,e⟩;exact⟨by omega,c.symm,e.symm⟩
theorem WT (a b c d:Int):kF Tryz.prog 9997 #[.int .i64 a,.int .i64 b] #[.int .i64 c,.int .i64 d]
  [{ name:= "Rule",type:=3,offset:=0,embedded:=false,tag:= "",pkgPath:= "",byteOffset:=0 },{ name:= "Dot",type:=3,offset:=1,embedded:=false,tag:= "",pkgPath:= "",byteOffset:=8 }] ((a == c) && ((b == d) && true)) :=
 .any _ _ _ _ _ _ (by decide) (fX Tryz.underlying3 (.inr ⟨_,rfl⟩) _ _ rfl) (fX Tryz.underlying3 (.inr ⟨_,rfl⟩) _ _ rfl) (xy Tryz.underlying3 _ _)
  (.any _ _ _ _ _ _ (by decide) (fX Tryz.underlying3 (.inr ⟨_,rfl⟩) _ _ rfl) (fX Tryz.underlying3 (.inr ⟨_,rfl⟩) _ _ rfl) (xy Tryz.underlying3 _ _) .nil)
theorem G2 (a b c:Int):bw Tryz.prog (part 120 #[.int .i64 a,.int .i64 b,.int .i64 c] 1)=some (.agg #[.int .i64 b,.int .i64 c]):=by kernel_rfl
theorem PB (x y:zd):bw Tryz.prog (Op.equal 218 (AE x) (AE y))=some (x == y):=by
 rw[kP,AE,AE]
 have h:kF Tryz.prog 9998 #[.int .i64 x.1,.int .i64 x.2.1,.int .i64 x.2.2] #[.int .i64 y.1,.int .i64 y.2.1,.int .i64 y.2.2]
  [{ name:= "state",type:=3,offset:=0,embedded:=false,tag:= "",pkgPath:= "gerund/access",byteOffset:=0 },{ name:= "item",type:=120,offset:=1,embedded:=false,tag:= "",pkgPath:= "gerund/access",byteOffset:=8 }] ((x.1 == y.1) && (((x.2.1 == y.2.1) && ((x.2.2 == y.2.2) && true)) && true)) :=
  .any _ _ _ _ _ _ (by decide) (fX Tryz.underlying3 (.inr ⟨_,rfl⟩) _ _ rfl) (fX Tryz.underlying3 (.inr ⟨_,rfl⟩) _ _ rfl) (xy Tryz.underlying3 _ _)
  (.any _ _ _ _ _ _ (by decide) (G2 _ _ _) (G2 _ _ _) (xV Tryz.underlying120 (by kernel_rfl) (WT x.2.1 x.2.2 y.2.1 y.2.2)) .nil)
 rw[xV Tryz.underlying218 (by kernel_rfl) h]
 obtain⟨a,b,c⟩:=x
 obtain⟨d,e,f⟩:=y
 congr 1
 rw[abD]
 simp
theorem P4 (x:zd) (e:Bool):bw Tryz.prog (Instr.checkKey e 10000 218 (AE x))=some ():=by
 cases e <;> kernel_rfl
theorem UR:GX Tryz.prog 218 u9 :=
 W6 AE (λ_=>rfl) Tryz.underlying218 PB P4 λk=>by simp[sameKey,show dJ (u9 k)=some (AE k) from rfl,AE,Instr.sameBits]
def gq:SC :=
 ae [ab [aQ 9 .lss 8 7],bX 9 (.exit 0),.block 1 (ae [ab [aa 10 8,aa 5 10],ab [aa 11 1,aa 12 0,aa 13 5,aO 14 2 12 13,aZ 15 2 14,((some 16),.call (.tmp 11) [(.tmp 15)])],bb 16 (ae [ab [aa 17 5,aa 4 17],.ret])]),ab [aF 18 .add 8 1,aa 8 18]]
def gC:SF:=⟨ae [ab [aR 4 0],ae [ab [aa 6 0,aN 7 6,aR 8 0],bZ 0 gq],ab [aR 4 (-1)],.ret],
 [.tmp 4],19⟩
theorem kp:aP Tryz.prog 249 []=some gC:=by kernel_rfl
def Ai:SF:=⟨ae [ab [cF 2 0,bB 3 false],ab [ao 4 0 2,ak 5 4,ak 6 1,aQ 7 .eql 5 6,aa 3 7],.ret],
 [.tmp 3],8⟩
theorem DR:aP Tryz.prog 250 [2]=some Ai:=by kernel_rfl
def An:SC :=
 ae [ab [aQ 24 .lss 23 22],bX 24 (.exit 0),.block 1 (ae [ab [aO 25 1 21 23,ak 26 25,((some 10),.op (.alloc [(.val (.int .i64 0))])),cD 1 10 26],ab [aa 27 0,aa 28 8,aO 29 2 27 28,ao 30 1 29,ak 31 30,((some 32),.op (.xl 250 [] [(.tmp 10)])),bk 33 249 [31,32],aa 11 33],ae [ab [aa 34 11,aF 35 .lss 34 0],bb 35 (ae [ab [aR 6 0,bB 7 false],.ret])],ab [aa 36 0,aa 37 8,aO 38 2 36 37,ao 39 1 38,ak 40 39,aa 41 11,aO 42 2 40 41,ao 43 1 42,ak 44 43,aa 8 44],.region false [⟨none,[aa 45 8,aF 46 .lss 45 0,aa 47 46]⟩,⟨(some (47,false)),[aa 48 8,aa 49 0,aN 50 49,aQ 51 .geq 48 50]⟩,⟨none,[cy 52 47 51]⟩],bb 52 (ae [ab [aR 6 0,bB 7 false],.ret])]),ab [aF 53 .add 23 1,aa 23 53]]
def CW:SF:=⟨ae [ab [aR 6 0,bB 7 false],ab [aa 12 1,aa 8 12],ae [.region false [⟨none,[aa 13 8,aF 14 .lss 13 0,aa 15 14]⟩,⟨(some (15,false)),[aa 16 8,aa 17 0,aN 18 17,aQ 19 .geq 16 18]⟩,⟨none,[cy 20 15 19]⟩],bb 20 (ae [ab [aR 6 0,bB 7 false],.ret])],ae [ab [aa 21 2,aN 22 21,aR 23 0],bZ 0 An],ab [aa 54 8,aa 6 54,bB 7 true],.ret],
 [.tmp 6,.tmp 7],55⟩
theorem GQ:aP Tryz.prog 193 []=some CW:=by kernel_rfl
theorem OS (l:List fp) (g:aK l) (f:FuncId) (cap:List V) (p:fp->Bool) (H:View) (h:∀ x∈l,aw Tryz.prog f (.agg (kc x) :: cap) H λr H'=>r=gb (p x)/\H'=H) :
  aw Tryz.prog 249 [.aU (jL l),.fn f [] cap] H λr H'=>r=gi (dM p l 0)/\H'=H:=by
 refine aw.of mixed kp ?_
 unfold aK at g
 simp(disch:=omega)only[↓wr,seval,wq,gC,jL]
 refine ba.up l.length (λi T H'=>H=H'/\dM p (l.drop i) i=dM p l 0/\T 0=.aU (l.map kc)/\T 1=.fn f [] cap/\T 7=gi l.length/\T 8=gi i) ⟨rfl,rfl,rfl,rfl,rfl,rfl⟩ ?_
 rintro i k T _ hk ⟨rfl,hi,b,h1,c,d⟩
 simp(disch:=omega)only[↓wr,seval,wq,gq,b,h1,c,d]
 apply aj.dec<;>intro j
 .have e:l[i]?=some (l[i]'(by omega)):=aaB (by omega)
  have hm:l[i]'(by omega)∈l:=aaL _
  rw[fq (show i < l.length by omega)] at hi
  generalize l[i]'(by omega)=x at e hm hi
  simp(disch:=omega)only[↓wr,seval,wq,b,h1,c,d,aaE,e,aaH,kc]
  have a:=h x hm
  simp only[kc] at a
  refine ax.eM (a.mono ?_)
  rintro r m ⟨rfl,rfl⟩
  simp only[dM] at hi
  simp(disch:=omega)only[↓wr,seval,wq]
  apply aj.split<;>intro hp
  .simp(disch:=omega)only[↓wr,seval,wq,b,h1,c,d]
   rw[<-hi,aaF hp]
  .simp(disch:=omega)only[↓wr,seval,wq,b,h1,c,d]
   refine aG hk (by omega) ⟨rfl,?_,b,h1,c,rfl⟩
   rw[aaD (by simp[hp])] at hi
   push_cast;exact hi
 .rw[aa7 (by omega)] at hi
  simp(disch:=omega)only[↓wr,seval,wq,b,h1,c,d]
  rw[<-hi];rfl
theorem Vw (x:fp) (s:Int) (q:Nat) (H:View) (a:H q=.arr 1 [[gi s]]):aw Tryz.prog 250 [.agg (kc x),.ptr q 0 0] H λr H'=>r=gb (decide (x.sym=s))/\H'=H:=by
 refine aw.of mixed DR ?_
 simp(disch:=omega)only[↓wr,seval,wq,Ai,kc,a]
 congr 2
theorem LS (s:Int):∀ (l:List fp) (i:Int),0<=i->(dM (λe=>decide (e.sym=s)) l i < 0->fP l s = -1)/\(0<=dM (λe=>decide (e.sym=s)) l i->∃ (k:Nat) (e:fp),dM (λe=>decide (e.sym=s)) l i=i+k/\l[k]?=some e/\fP l s=e.to)
 | [],i,_=>⟨λ_=>rfl,λh=>by simp[dM] at h⟩
 | x :: l,i,d=>by
  simp only[dM,fP,aaP]
  by_cases h:x.sym=s
  .rw[aaF h,aaF h]
   exact⟨λh=>by omega,λ_=>⟨0,x,by simp,rfl,rfl⟩⟩
  .rw[aaD h,aaD h]
   obtain⟨h1,a⟩:=LS s l (i+1) (by omega)
   refine⟨h1,λh=>?_⟩
   obtain⟨k,e,b,k2,c⟩:=a h
   exact⟨k+1,e,by rw[b];push_cast;omega,by simpa using k2,c⟩
theorem Tp {l:List fp} (h:∀ e∈l,bM e.to) (s:Int):bM (fP l s):=by
 induction l with
 | nil=>unfold bM;simp[fP]
 | cons e l a =>
  rw[fP];split
  .exact h e (by simp)
  .exact a λx b=>h x (by simp[b])
theorem UA (a:List aJ) (_:aK a) (he:∀ s∈a,aK s.bO/\∀ e∈s.bO,bM e.sym/\bM e.to) (fr:Int) (syms:List Int) (t:aK syms):az Tryz.prog 193 [bI a,gi fr,encI syms] (.bf [gi (ef a fr syms).1,gb (ef a fr syms).2]):=by
 unfold aK at t
 refine az.tree (by
  intro v l;simp at l
  rcases l with rfl | rfl | rfl
  .exact lj _
  .exact .val _
  .exact cx _) (B1 (.val _) (.val _)) λH=>?_
 refine aw.of mixed GQ ?_
 unfold ef
 simp(disch:=omega)only[↓wr,seval,wq,CW,bI,encI]
 apply aj.dec<;>intro h1
 .simp(disch:=omega)only[↓wr,seval,wq]
  rw[aaF (by omega)]
 simp(disch:=omega)only[↓wr,seval,wq,bI]
 apply aj.dec<;>intro u
 .simp(disch:=omega)only[↓wr,seval,wq]
  rw[aaF (by omega)]
 rw[aaD (by omega)]
 simp(disch:=omega)only[↓wr,seval,wq]
 refine ba.up syms.length (λi T H'=>∃ at_:Int,0<=at_/\at_ < a.length/\fV a at_ (syms.drop i)=fV a fr syms/\T 0=bI a/\T 8=gi at_/\T 21=encI syms/\T 22=gi syms.length/\T 23=gi i) ⟨fr,by omega,by omega,rfl,rfl,rfl,rfl,rfl,rfl⟩ ?_
 rintro i k T H' hk ⟨at_,D,E,hw,t0,t8,t21,t22,t23⟩
 simp(disch:=omega)only[↓wr,seval,wq,An,t0,t8,t21,t22,t23,encI]
 apply aj.dec<;>intro w
 .have m:syms[i]?=some (syms[i]'(by omega)):=aaB (by omega)
  rw[abo (show i < syms.length by omega)] at hw
  generalize syms[i]'(by omega)=x at m hw
  have f:a[at_.toNat]?=some (a.getD at_.toNat bC):=getD_some (by omega)
  obtain⟨b,c⟩:=he _ (aaI f)
  rw[fV] at hw
  have g:=Tp (λe h=>(c e h).2) x
  generalize a.getD at_.toNat bC=S at f b c hw g
  simp(disch:=omega)only[↓wr,seval,wq,t0,t8,t21,t22,t23,encI,aaE,m,aaH]
  intro q F
  rw[set_set]
  have d:(H'.set q (.arr 1 [[gi x]])) q=.arr 1 [[gi x]]:=by simp[View.set]
  generalize H'.set q (.arr 1 [[gi x]])=n at d
  simp(disch:=omega)only[↓wr,seval,wq,t0,t8,bI,aaE,f,aaH,fI]
  refine ax.eM ((OS S.bO b 250 [.ptr q 0 0] (λe=>decide (e.sym=x)) n (λe _=>Vw e x q n d)).mono ?_)
  rintro r G ⟨rfl,rfl⟩
  obtain⟨i1,i2⟩:=LS x S.bO 0 (by omega)
  unfold aK at b
  simp(disch:=omega)only[↓wr,seval,wq]
  apply aj.dec<;>intro o
  .simp(disch:=omega)only[↓wr,seval,wq]
   rw[<-hw,i1 o,aaD (by omega)]
  .obtain⟨j,e,y,p,z⟩:=i2 (by omega)
   have I:=(aaR.1 p).1
   rw[y]
   have A:((0:Int)+(j:Int))=(j:Int):=by omega
   rw[A]
   rw[z] at hw g
   unfold bM at g
   simp(disch:=omega)only[↓wr,seval,wq,t0,t8,bI,aaE,f,aaH,fI,jL,p,kc]
   apply aj.dec<;>intro B
   .simp(disch:=omega)only[↓wr,seval,wq]
    rw[<-hw,aaD (by omega)]
   .simp(disch:=omega)only[↓wr,seval,wq,t0,bI]
    apply aj.dec<;>intro C
    .simp(disch:=omega)only[↓wr,seval,wq]
     rw[<-hw,aaD (by omega)]
    .simp(disch:=omega)only[↓wr,seval,wq,t0,t21,t22,t23]
     rw[aaF ⟨by omega,by omega⟩] at hw
     exact aG hk (by omega) ⟨e.to,by omega,by omega,hw,t0,rfl,t21,t22,rfl⟩
 .simp(disch:=omega)only[↓wr,seval,wq,t8]
  rw[aa7 (by omega),fV] at hw
  rw[<-hw]
section
variable {P:Program} {T:Env} {H:View} {K:V->View->Prop} {w:cX (T,H,K)} {t ty:TypeId}
theorem Up {d:Operand} {id off len sz bytes s:Nat} {z:List V} {es:List (List V)} (he:qD P t=some (sz,bytes,z)) (h:ev T d=.sl id off len sz) (hH:H id=.arr s es) (i:off+len<=es.length) (j:len≠0)
  (hk:K (.bf []) (H.set id (.arr sz (eN es off (List.replicate len z))))):jI P (.call { callee:=.builtin .clear,args:=#[d],argTypes:=#[t] }) ty T H K w:=by
 obtain⟨e,ti,b,hi,c,k,f,a,g,rfl,rfl⟩:=kY he
 intro n _
 refine⟨.bf [],.fU id (.arr ti.size (eN es off (List.replicate len z))),[id],?_,hk⟩
 simp only[sI,cH,oper]
 simp only[aaZ] at a
 simp[xU,b,h,cT,c,j,hH,i,g,k,f,a]
 exact a
end
theorem AJ:∀ (xs A B:List (List V)),xs.length<=B.length->eN (A ++ B) A.length xs=A ++ xs ++ B.drop xs.length
 | [],A,B,_=>by simp[eN]
 | x :: r,A,[],h=>by simp at h
 | x :: r,A,b :: B,h=>by
  rw[eN,List.set_append_right _ _ (aaM _),Nat.sub_self,List.set_cons_zero]
  have:=AJ r (A ++ [x]) B (by simpa using h)
  simpa using this
theorem Bw {id off k m:Nat} (hm:m<=k):dA 2 (.sl id off k 2) (some (gi m)) none=some (.sl id (off+m) (k - m) 2,.none,[]):=by
 simp[dA,bound,asNat,hm]
theorem Ln {id off k m:Nat} (hm:m<=k):dA 2 (.sl id off k 2) none (some (gi m))=some (.sl id off m 2,.none,[]):=by
 simp[dA,bound,asNat,hm]
def gA:SC :=
 ae [ae [ab [aa 29 5,aa 30 4,aN 31 30,aQ 32 .lss 29 31],bX 32 (.exit 2)],.block 3 (ae [ab [aa 35 4,aa 36 5,aO 37 2 35 36,aZ 38 2 37,aa 39 4,aa 40 5,aF 41 .sub 40 1,aO 42 2 39 41,aZ 43 2 42,((some 44),.op (.old (.binOp .neq 120 (.tmp 38) (.tmp 43) 120) 4))],bb 44 (ae [ab [aa 45 0,aa 46 3,aa 47 4,aa 48 5,aO 49 2 47 48,aZ 50 2 49,aO 51 2 45 46,cD 2 51 50],ab [aa 52 3,aF 53 .add 52 1,aa 3 53]])]),ab [aa 33 5,aF 34 .add 33 1,aa 5 34]]
def gD:SC :=
 ae [ae [ab [aa 10 3,aa 11 0,aN 12 11,aQ 13 .lss 10 12],bX 13 (.exit 0)],.block 1 (ae [ab [aa 16 0,aa 17 3,aO 18 2 16 17,aZ 19 2 18,aa 20 0,aa 21 3,aF 22 .sub 21 1,aO 23 2 20 22,aZ 24 2 23,((some 25),.op (.old (.binOp .eql 120 (.tmp 19) (.tmp 24) 120) 4))],bb 25 (ae [ab [aa 26 0,aa 27 3,((some 28),.op (.slice 2 (.tmp 26) (some (.tmp 27)) none)),aa 4 28],ae [ab [aR 5 1],bZ 2 gA],ab [aa 54 0,aa 55 3,((some 56),.op (.slice 2 (.tmp 54) (some (.tmp 55)) none)),(none,.op (.old (.call { callee:=.builtin .clear,args:=#[(.tmp 56)],argTypes:=#[103] }) 0))],ab [aa 57 0,aa 58 3,((some 59),.op (.slice 2 (.tmp 57) none (some (.tmp 58)))),aa 2 59],.ret])]),ab [aa 14 3,aF 15 .add 14 1,aa 3 15]]
def gW:SF:=⟨ae [ab [bT 2 1],ae [ab [aa 6 0,aN 7 6,aF 8 .lss 7 2],bb 8 (ae [ab [aa 9 0,aa 2 9],.ret])],ae [ab [aR 3 1],bZ 0 gD],ab [aa 60 0,aa 2 60],.ret],
 [.tmp 2],61⟩
theorem kX:aP Tryz.prog 192 []=some gW:=by kernel_rfl
def CS:SF:=⟨ae [ab [bT 2 1],ab [aa 3 0,qw 4 190 [(.tmp 3),(.val (.fn 191 [] []))]],ab [aa 5 0,bk 6 192 [5],aa 2 6],.ret],
 [.tmp 2],7⟩
theorem GK:aP Tryz.prog 124 []=some CS:=by kernel_rfl
theorem uA {l:List ay} {i:Nat} (h:i < l.length):(aV l).getD i []=[gi (l.getD i iC).au,gi (l.getD i iC).dot]:=ta (getD_some h)
theorem PH (l:List ay) (i j:Nat) (x d:ay) (hi:i < l.length):(l.set i x).getD j d=if i=j then x else l.getD j d:=by
 rw[jQ]
 by_cases e:i=j
 .rw[aaF ⟨e,hi⟩,aaF e]
 .rw[aaD (λh=>e h.1),aaD e]
theorem P6 (l:List ay) (U:l.length<=100000) (u:V) (H:View) (C:aT H u 2 (aV l)):aw Tryz.prog 192 [u] H λr H'=>(∀ id,owner u≠some id->H' id=H id)/\aT H' r 2 (aV (gm l l.length))/\owner r=owner u:=by
 refine aw.cut (K:=λr H'=>(H'=H/\r=u/\gm l l.length=l)∨∃ id rest,u=.sl id 0 l.length 2/\r=.sl id 0 (gm l l.length).length 2/\H'=H.set id (.arr 2 (aV (gm l l.length) ++ rest))) ?_ ?_
 rotate_left
 .rintro r H' (⟨rfl,rfl,e⟩ | ⟨id,rest,rfl,rfl,rfl⟩)
  .exact .inl ⟨λ_ _=>rfl,by rw[e];exact C,rfl⟩
  .refine .inr ⟨id,2,aV (gm l l.length),rest,by simp[View.set],λj L=>?_,?_,rfl⟩
   .rw[set_set]
    simp only[View.set]
    rw[aaD (λe=>L (by rw[e];rfl))]
   .rw[set_set]
    exact .inr ⟨id,by rw[bG],by simp[View.set]⟩
 refine aw.of mixed kX ?_
 have hlen:cT u=some l.length:=by rw[C.len,bG]
 simp(disch:=omega)only[↓wr,seval,wq,gW,hlen]
 apply aj.dec<;>intro n
 .simp(disch:=omega)only[↓wr,seval,wq]
  left
  try refine⟨rfl,rfl,?_⟩
  match l,n with
  | [],_=>rfl
  | [x],_=>rfl
  | _ :: _ :: _,n=>simp at n;omega
 obtain⟨id,hu,t⟩:=C.sl (by rw[bG];omega)
 rw[bG] at hu
 subst hu
 simp(disch:=omega)only[↓wr,seval,wq]
 refine ba.up (l.length - 1) (λi T H'=>H=H'/\(∀ j,0 < j->j < i+1->l.getD j iC≠l.getD (j - 1) iC)/\T 0=.sl id 0 l.length 2/\T 3=gi ((i+1:Nat):Int)) ⟨rfl,λj h1 n=>by omega,rfl,rfl⟩ ?_
 rintro i k T _ hk ⟨rfl,o,t0,t3⟩
 simp(disch:=omega)only[↓wr,seval,wq,gD,t0,t3]
 apply aj.dec<;>intro O
 rotate_left
 .simp(disch:=omega)only[↓wr,seval,wq,t0]
  left
  try refine⟨rfl,rfl,?_⟩
  rw[Be l _ (aaM _) (λj h1 n=>o j h1 (by omega)),List.take_length]
 have D:i+1 < l.length:=by omega
 have P:(((i+1:Nat):Int) - 1)=(i:Int):=by omega
 simp(disch:=omega)only[↓wr,seval,wq,t0,t3,t,uA D,uA (show i < l.length by omega),P]
 refine⟨by omega,by rw[bG];omega,?_⟩
 refine⟨by omega,by rw[bG];omega,?_⟩
 generalize M:l.getD (i+1) iC=x
 generalize N:l.getD i iC=y
 refine jd (xs:=#[.int .i64 x.au,.int .i64 x.dot]) (ys:=#[.int .i64 y.au,.int .i64 y.dot]) Tryz.underlying120 (by kernel_rfl) (by kernel_rfl) ?_ ?_ (oZ x y) (.inl ⟨rfl,rfl⟩) ?_
 .rfl
 .rfl
 rw[xP]
 simp(disch:=omega)only[↓wr,seval,wq,t0,t3]
 apply aj.dec<;>intro heq
 rotate_left
 .simp(disch:=omega)only[↓wr,seval,wq,t0,t3]
  refine aG hk (by omega) ⟨rfl,λj h1 n=>?_,t0,by push_cast;rfl⟩
  rcases aa2 j (i+1) with q | q
  .exact o j h1 q
  .have:j=i+1:=by omega
   subst this
   rw[Nat.add_sub_cancel,M,N];exact heq
 have g:gm l (i+1+1)=l.take (i+1):=by
  rw[gm,aaD,Be l (i+1) (by omega) o]
  rw[Nat.add_sub_cancel,M,N]
  simp[heq]
 simp(disch:=omega)only[↓wr,seval,wq,t0,t3,Bw (id:=id) (off:=0) (k:=l.length) (m:=i+1) (by omega)]
 refine ba.up (l.length - (i+1) - 1) (λi2 T H'=>∃ (a:Nat) (cur:List ay),H'=H.set id (.arr 2 (aV cur))/\cur.length=l.length/\i+1<=a/\a<=i+1+i2/\cur.take a=gm l (i+1+(i2+1))/\(∀ j,a<=j->cur.getD j iC=l.getD j iC) /\
  T 0=.sl id 0 l.length 2/\T 3=gi a/\T 4=.sl id (i+1) (l.length - (i+1)) 2/\T 5=gi ((i2+1:Nat):Int)) ⟨i+1,l,?_,rfl,aaM _,by omega,by rw[g],λ_ _=>rfl,t0,t3,?_,rfl⟩ ?_
 .funext j;simp only[View.set];split
  .rename_i e;rw[e,t]
  .rfl
 .rfl
 clear t0 t3 hk
 rintro i2 k2 W _ v ⟨a,cur,rfl,w,Q,X,c,d,t0,t3,t4,t5⟩
 have b:(H.set id (.arr 2 (aV cur))) id=.arr 2 (aV cur):=by simp[View.set]
 simp(disch:=omega)only[↓wr,seval,wq,gA,t0,t3,t4,t5]
 apply aj.dec<;>intro E
 .have hp:i+1+(i2+1) < l.length:=by omega
  have R:(((i2+1:Nat):Int) - 1)=(i2:Int):=by omega
  simp(disch:=omega)only[↓wr,seval,wq,t0,t3,t4,t5,b,R,uA (l:=cur) (show i+1+(i2+1) < cur.length by omega),uA (l:=cur) (show i+1+i2 < cur.length by omega)]
  refine⟨by omega,by rw[bG];omega,?_⟩
  refine⟨by omega,by rw[bG];omega,?_⟩
  rw[d _ (show a<=i+1+(i2+1) by omega),d _ (show a<=i+1+i2 by omega)]
  generalize A:l.getD (i+1+(i2+1)) iC=f
  generalize F:l.getD (i+1+i2) iC=B
  refine jd (xs:=#[.int .i64 f.au,.int .i64 f.dot]) (ys:=#[.int .i64 B.au,.int .i64 B.dot]) Tryz.underlying120 (by kernel_rfl) (by kernel_rfl) ?_ ?_ (oZ f B) (.inr ⟨rfl,rfl⟩) ?_
  .rfl
  .rfl
  rw[xP]
  simp(disch:=omega)only[↓wr,seval,wq,t0,t3,t4,t5]
  have h:gm l (i+1+(i2+1+1))=if f=B then gm l (i+1+(i2+1)) else gm l (i+1+(i2+1)) ++ [f]:=by
   rw[show i+1+(i2+1+1)=(i+1+(i2+1))+1 by omega,gm,A,show i+1+(i2+1) - 1=i+1+i2 by omega,F]
   by_cases e:f=B
   .rw[aaF e,aaD (by simp[e])]
   .rw[aaD e,aaF (.inr e)]
  apply aj.dec<;>intro he
  .simp(disch:=omega)only[↓wr,seval,wq,t0,t3,t4,t5]
   rw[aaF he] at h
   exact aG v (by omega) ⟨a,cur,rfl,w,Q,by omega,by rw[h];exact c,d,t0,t3,t4,by push_cast;rfl⟩
  .simp(disch:=omega)only[↓wr,seval,wq,t0,t3,t4,t5,b,uA (l:=cur) (show i+1+(i2+1) < cur.length by omega)]
   rw[d _ (show a<=i+1+(i2+1) by omega),A]
   have p:(aV cur).getD a []=[gi (cur.getD a iC).au,gi (cur.getD a iC).dot]:=uA (by omega)
   have G:(aV cur).set a [gi f.au,gi f.dot]=aV (cur.set a f):=by simp[aV,acC,bu]
   simp(disch:=omega)only[↓wr,seval,wq,t0,t3,t4,t5,b,p,G]
   rw[set_set]
   rw[aaD he] at h
   refine⟨by omega,by rw[bG];omega,?_⟩
   refine⟨by omega,by rw[bG];omega,?_⟩
   refine aG v (by omega) ⟨a+1,cur.set a f,rfl,by simp[w],by omega,by omega,?_,λj L=>?_,t0,by push_cast;rfl,t4,by push_cast;rfl⟩
   .rw[h,<-c,aa3,List.take_set_of_le (aaM _),ab6 (by omega)];rfl
   .rw[PH _ _ _ _ _ (by omega),aaD (by omega)]
    exact d j (by omega)
 .have I:i+1+(i2+1)=l.length:=by omega
  rw[I] at c
  have S:l.length - a≠0:=by omega
  have p:a=(gm l l.length).length:=by rw[<-c,abn];omega
  simp(disch:=omega)only[↓wr,seval,wq,t0,t3,Bw (id:=id) (off:=0) (k:=l.length) (m:=a) (by omega)]
  refine Up (id:=id) (off:=a) (len:=l.length - a) (sz:=2) (bytes:=16) (s:=2) (z:=[gi 0,gi 0]) (es:=aV cur) (by kernel_rfl) (by simp(disch:=omega)only[↓wr,seval,wq];try rw[abq]) b (by rw[bG];omega) S ?_
  rw[set_set]
  have J:eN (aV cur) a (List.replicate (l.length - a) [gi 0,gi 0])=aV (gm l l.length) ++ List.replicate (l.length - a) [gi 0,gi 0]:=by
   have h1:=AJ (List.replicate (l.length - a) [gi 0,gi 0]) (aV (cur.take a)) (aV (cur.drop a)) (by simp[aV];omega)
   rw[show aV (cur.take a) ++ aV (cur.drop a)=aV cur by rw[aV,aV,<-aaW,acA];rfl] at h1
   rw[show (aV (cur.take a)).length=a by rw[bG,abn];omega] at h1
   rw[h1,c,aa7 (by simp[aV];omega),abS]
  rw[J]
  simp(disch:=omega)only[↓wr,seval,wq,t0,t3,Ln (id:=id) (off:=0) (k:=l.length) (m:=a) (by omega)]
  right
  exact⟨id,List.replicate (l.length - a) [gi 0,gi 0],rfl,by rw[p],rfl⟩
theorem N6 (l:List ay) (h:l.length<=100000) (u:V) (H:View) (c:aT H u 2 (aV l)):aw Tryz.prog 124 [u] H λr H'=>(∀ id,owner u≠some id->H' id=H id)/\aT H' r 2 (aV (Cj l))/\owner r=owner u:=by
 refine aw.of mixed GK ?_
 simp(disch:=omega)only[↓wr,seval,wq,CS]
 refine ax.eM ((VQ l (by omega) u H c).mono ?_)
 rintro r d ⟨rfl,k2,e⟩
 simp(disch:=omega)only[↓wr,seval,wq]
 refine ax.eM ((P6 (fk l) (by rw[jR];omega) u d e).mono ?_)
 rintro r i ⟨f,b,g⟩
 simp(disch:=omega)only[↓wr,seval,wq]
 rw[jR] at b
 exact⟨λid a=>by rw[f id a,k2 id a],b,g⟩
end Gv
