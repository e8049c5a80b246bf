/-
  Part 12 of the proof: what the machine does and what the functions answer.
  Conditions: those that each lemma names.
-/
import Derived.Test.YtiophifnkakjgaaGreatSGzB6K
set_option linter.unusedSimpArgs false
set_option linter.unusedVariables false
set_option maxRecDepth 100000
set_option maxHeartbeats 20000000
namespace Gv
open Go Go.Proofs
def lO (g:ae) (x:Item):Bool:=match g.rules[x.al]? with
 | some R=>decide (R.left=g.start) && decide (x.c9=0) && decide (x.dot=R.right.length)
 | none=>false
def Kept (H H':View):Prop:=∀ id,H id≠.dead->H' id=H id
theorem Kept.refl (H:View):Kept H H:=λ_ _=>rfl
theorem Kept.trans {H H' b:View} (h:Kept H H') (c:Kept H' b):Kept H b:=λid a=>by
 have h1:=h id a
 rw[<-h1] at a
 rw[c id a,h1]
theorem Kept.new {H:View} {b:Nat} {o:bT} (c:H b=.dead):Kept H (H.set b o):=λid a=>by
 have:id≠b:=by rintro rfl;exact a c
 simp[View.set,this]
def Dg (H:View) (c:Nat) (g:ae) (p:List Int):Prop:=∃ nu sid mid n,H c=.arr 8 [[.aS (g.ai.map cO),encS g.ao,.aS (g.rules.map aW),gi g.start,encI p,nu,.sl sid 0 n 1,.sl mid 0 n 1]]
theorem Dg.keep {H H':View} {c:Nat} {g:ae} {p:List Int} (h:Dg H c g p) (d:Kept H H'):Dg H' c g p:=by
 obtain⟨e,a,b,n,h⟩:=h
 exact⟨e,a,b,n,by rw[d c (by rw[h];simp)];exact h⟩
def lF:SF:=⟨af [ab [cd 2 0,bu 3 false],ab [aj 5 1,ed 6 5,au 7 0 6,au 8 2 7,aj 9 8,au 10 0 2,aj 11 10,aM 12 3 9 11,aU 13 3 12,((some 4),.op (.alloc [(.val (.int .i64 0)),(.emp 1),(.val (.int .i64 0))])),cG 3 4 13],.region false [⟨none,[au 14 0 4,aj 15 14,aj 16 1,ed 17 16,au 18 0 17,au 19 3 18,aj 20 19,aV 21 .eql 15 20,aa 22 21]⟩,⟨(some (22,true)),[au 23 2 2,aj 24 23,aE 25 .eql 24 0]⟩,⟨none,[c8 26 22 25,aa 27 26]⟩,⟨(some (27,true)),[au 28 1 2,aj 29 28,au 30 1 4,aj 31 30,aP 32 31,aV 33 .eql 29 32]⟩,⟨none,[c8 34 27 33,aa 3 34]⟩],.ret],
 [.tmp 3],35⟩
theorem rh:aQ Tryz.prog 113 [2]=some lF:=by kernel_rfl
def eo:SC :=
 af [ab [aV 9 .lss 8 7],bW 9 (.exit 0),.block 1 (af [ab [aa 10 8,aa 5 10],ab [aa 11 1,aa 12 0,aa 13 5,aM 14 3 12 13,aU 15 3 14,((some 16),.call (.tmp 11) [(.tmp 15)])],bg 16 (af [ab [aa 17 5,aa 4 17],.ret])]),ab [aE 18 .add 8 1,aa 8 18]]
def eF:SF:=⟨af [ab [aT 4 0],af [ab [aa 6 0,aP 7 6,aT 8 0],bX 0 eo],ab [aT 4 (-1)],.ret],
 [.tmp 4],19⟩
theorem hD:aQ Tryz.prog 178 []=some eF:=by kernel_rfl
def ej:SF:=⟨af [ab [bu 4 false],ab [aa 5 0,aa 6 1,ba 7 178 [5,6],aE 8 .geq 7 0,aa 4 8],.ret],
 [.tmp 4],9⟩
theorem gD:aQ Tryz.prog 112 []=some ej:=by kernel_rfl
def od:SF:=⟨af [ab [cd 1 0,bu 2 false],ab [aj 3 1,ed 4 3,au 5 6 4,aj 6 5,aj 7 1,ed 8 7,au 9 4 8,aj 10 9,aP 11 10,aM 12 1 6 11,aj 13 12,((some 14),.op (.rW 113 [] [(.tmp 1)])),ba 15 112 [13,14],aa 2 15],.ret],
 [.tmp 2],16⟩
theorem sy:aQ Tryz.prog 54 [1]=some od:=by kernel_rfl
theorem Oz (c:Nat) (g:ae) (p:List Int) (x:Item) (H:View) (d:Dg H c g p) (f:x.al < g.rules.length):aw Tryz.prog 113 [.agg (eS x),.aF [.ptr c 0 0] 0] H λr H'=>r=gb (lO g x)/\Kept H H':=by
 obtain⟨m,j,k,n,a⟩:=d
 have h:g.rules[x.al]?=some (g.rules[x.al]'f):=U6 f
 generalize g.rules[x.al]'f=R at h
 have hw:lO g x=(decide (R.left=g.start) && decide (x.c9=0) && decide (x.dot=R.right.length)):=by unfold lO;rw[h]
 refine aw.of mixed rh ?_
 simp(disch:=omega)only[↓wr,seval,wq,lF,eS,a,aW,encI,U9,h]
 intro b d
 have i:c≠b:=by rintro rfl;rw[a] at d;simp at d
 simp only[U8 i]
 simp(disch:=omega)only[↓wr,seval,wq,a]
 apply ah.eq<;>intro e
 .simp(disch:=omega)only[↓wr,seval,wq]
  apply ah.eq<;>intro l
  .simp(disch:=omega)only[↓wr,seval,wq]
   refine⟨?_,?_⟩
   .rw[hw,Wn e,Wn (show x.c9=0 by omega),gb]
    congr 2
    rw[V1]
    simp
    omega
   .rw[set_set];exact Kept.new d
  .simp(disch:=omega)only[↓wr,seval,wq]
   refine⟨?_,?_⟩
   .rw[hw,Wn e,decide_eq_false (show ¬ x.c9=0 by omega)];rfl
   .rw[set_set];exact Kept.new d
 .simp(disch:=omega)only[↓wr,seval,wq]
  refine⟨?_,?_⟩
  .rw[hw,decide_eq_false e];rfl
  .rw[set_set];exact Kept.new d
theorem Md (c:Nat) (g:ae) (p:List Int) (u:V) (l:List Item) (H:View) (A:Dg H c g p) (q:aZ H u 3 (l.map eS)) (B:∀ x∈l,x.al < g.rules.length) (C:l.length < 1000000) :
  aw Tryz.prog 178 [u,.fn 113 [] [.aF [.ptr c 0 0] 0]] H λr H'=>∃ k:Int,r=gi k/\-1<=k/\k < 1000000/\(0<=k↔l.any (lO g)=true)/\Kept H H':=by
 refine aw.of mixed hD ?_
 simp(disch:=omega)only[↓wr,seval,wq,eF,q.len]
 refine bc.up l.length (λi j H'=>Kept H H'/\(l.take i).any (lO g)=false/\j 0=u/\j 1=.fn 113 [] [.aF [.ptr c 0 0] 0]/\j 7=cF l.length/\j 8=cF i) ?_ ?_
 .exact⟨.refl _,by simp,rfl,rfl,rfl,rfl⟩
 rintro i k j H' hk ⟨a,b,t0,t1,t7,t8⟩
 have s:=A.keep a
 have t:aZ H' u 3 (l.map eS):=q.keep λid v=>a id (by rw[(q.live v).1];simp)
 simp(disch:=omega)only[↓wr,seval,wq,eo,t0,t1,t7,t8]
 apply ah.dec<;>intro D
 .obtain⟨m,w,hm⟩:=t.sl (by simp;omega)
  have d:l[i]?=some (l[i]'(by omega)):=U6 (by omega)
  have f:l[i]'(by omega)∈l:=Vg _
  have n:l.take (i+1)=l.take i ++ [l[i]'(by omega)]:=by rw[Vs,d];rfl
  generalize l[i]'(by omega)=x at d f n
  have y:(l.map eS).getD i []=[cF x.al,cF x.dot,cF x.c9]:=by simp[U5,d,eS]
  have z:=B x f
  simp(disch:=omega)only[↓wr,seval,wq,t0,t1,t7,t8,w,hm,y]
  refine⟨by omega,by omega,?_⟩
  refine av.eD ((Oz c g p x H' s z).mono ?_)
  rintro r E ⟨rfl,o⟩
  simp(disch:=omega)only[↓wr,seval,wq]
  apply ah.split<;>intro e
  .simp(disch:=omega)only[↓wr,seval,wq,t8]
   refine⟨(i:Int),rfl,by omega,by omega,⟨λ_=>WC.2 ⟨x,f,e⟩,λ_=>by omega⟩,a.trans o⟩
  .simp(disch:=omega)only[↓wr,seval,wq,t8]
   exact aI hk (by omega) ⟨a.trans o,by rw[n,List.any_append,b];simp[e],t0.trans rfl,t1,t7,rfl⟩
 .simp(disch:=omega)only[↓wr,seval,wq]
  have:i=l.length:=by omega
  subst this
  rw[WJ] at b
  exact⟨-1,rfl,by omega,by omega,⟨λh=>by omega,λh=>by rw[b] at h;simp at h⟩,a⟩
theorem GK (c:Nat) (g:ae) (p:List Int) (u:V) (l:List Item) (H:View) (b:Dg H c g p) (d:aZ H u 3 (l.map eS)) (e:∀ x∈l,x.al < g.rules.length) (a:l.length < 1000000) :
  aw Tryz.prog 112 [u,.fn 113 [] [.aF [.ptr c 0 0] 0]] H λr H'=>r=gb (l.any (lO g))/\Kept H H':=by
 refine aw.of mixed gD ?_
 simp(disch:=omega)only[↓wr,seval,wq,ej]
 refine av.eD ((Md c g p u l H b d e a).mono ?_)
 rintro r i ⟨k,rfl,h1,j,f,h⟩
 simp(disch:=omega)only[↓wr,seval,wq]
 refine⟨?_,h⟩
 rw[gb]
 congr 2
 rw[V1,<-f]
 simp
theorem FC (c:Nat) (g:ae) (f:g.de) (p:List Int) (hp:p.length<=60) (i:V) (S:Nat->List Item) (B:Nat) (K:List (Nat × bT)) (H:View) (j:Ch H c g p i S B (p.length+1) K) (h:Good g p S) :
  aw Tryz.prog 54 [.ptr c 0 0] H λr _=>r=gb ((S p.length).any (lO g)):=by
 obtain⟨k,l,m,b,d,n⟩:=j.set (a:=p.length) (by omega)
 have e:p.length < p.length+1:=by omega
 have hr:=f.rules
 refine aw.of mixed sy ?_
 simp(disch:=omega)only[↓wr,seval,wq,od,b,encI,d,iL e]
 refine⟨by omega,by simp,?_⟩
 refine av.eD ((GK c g p (m p.length) (S p.length) H ⟨_,_,_,_,b⟩ n (λx o=>?_) (by have:=h.len f hp p.length;omega)).mono ?_)
 .obtain⟨R,q,_⟩:=h.sound _ _ o
  exact(Vf.1 q).1
 rintro r s ⟨rfl,_⟩
 simp(disch:=omega)only[↓wr,seval,wq]
theorem Dr {g:ae} (hr:aO g=true) {p:List Int} {S:Nat->List Item} (c:Good g p S) (d:sq g p S):(S p.length).any (lO g)=me g p:=by
 rw[V1,mj hr,<-Nl hr d c.sound,WC]
 constructor
 .rintro⟨x,a,hw⟩
  refine⟨x,a,?_⟩
  unfold lO at hw
  split at hw
  .rename_i R b
   simp only[Vd,Vj] at hw
   exact⟨R,b,hw.1.1,hw.1.2,hw.2⟩
  .simp at hw
 .rintro⟨x,a,R,b,h1,e,f⟩
  refine⟨x,a,?_⟩
  unfold lO
  rw[b]
  simp only[Vd,Vj]
  exact⟨⟨h1,e⟩,f⟩
def wT:SF:=⟨af [ab [cd 2 0,bu 4 false,aT 5 0],af [.region false [⟨none,[aU 6 4 2,ba 7 89 [6],cb 8 7,aa 9 8]⟩,⟨(some (9,false)),[aa 10 1,aP 11 10,aE 12 .gtr 11 60]⟩,⟨none,[bP 13 9 12,aa 14 13]⟩,⟨(some (14,false)),[aa 15 1,((some 16),.op (.rW 91 [] [(.tmp 2)])),ba 17 90 [15,16]]⟩,⟨none,[bP 18 14 17]⟩],bg 18 (af [ab [bu 4 false,aT 5 1],.ret])],ab [aU 19 4 2,aa 20 1,ba 21 53 [19,20],ba 22 54 [21],aa 4 22,aT 5 0],.ret],
 [.tmp 4,.tmp 5],23⟩
theorem Af:aQ Tryz.prog 45 [2]=some wT:=by kernel_rfl
def xQ:SF:=⟨af [ab [cd 2 0,bu 4 false,aT 5 0],af [ab [aU 6 4 2,aa 7 1,ba 8 52 [6,7],cb 9 8],bg 9 (af [ab [bu 4 false,aT 5 1],.ret])],ab [aU 10 4 2,aa 11 1,ba 12 53 [10,11],ba 13 54 [12],aa 4 13,aT 5 0],.ret],
 [.tmp 4,.tmp 5],14⟩
theorem Ce:aQ Tryz.prog 19 [2]=some xQ:=by kernel_rfl
theorem uY (g:ae) (e:g.Ok) (f:g.Small) (w:List Int) (hw:aH w) (j:∀ x∈w,bD x):ay Tryz.prog 19 [.agg (ag g),encI w] (mn (ko g w)):=by
 refine ay.tree (pq g w) (ye _) λH=>?_
 refine aw.of mixed Ce ?_
 simp(disch:=omega)only[↓wr,seval,wq,xQ,ag,encS]
 have b:=Gy g e f w hw j
 simp only[ag,encS] at b
 refine av.pure b ?_
 simp(disch:=omega)only[↓wr,seval,wq]
 apply ah.split<;>intro h
 .have a:=h
  simp only[fQ,Vd,Vj] at a
  simp(disch:=omega)only[↓wr,seval,wq]
  have d:=CA g e a.1.1 f w a.1.2 H
  simp only[ag,encS] at d
  refine av.eD (d.mono ?_)
  rintro r H1 ⟨c,S,B,rfl,k,i,l⟩
  simp(disch:=omega)only[↓wr,seval,wq]
  refine av.eD ((FC c g (aK a.1.1) w a.1.2 _ S B _ H1 k i).mono ?_)
  rintro r m rfl
  simp(disch:=omega)only[↓wr,seval,wq]
  rw[ko,Va h,Dr a.1.1 i l];rfl
 .simp(disch:=omega)only[↓wr,seval,wq]
  rw[ko,h];rfl
theorem GQ (g:ae) (h:g.Ok) (j:g.Small) (p:List Int) (hp:aH p) (m:∀ x∈p,bD x):ay Tryz.prog 45 [.agg (ag g),encI p] (mn (pB g p)):=by
 refine ay.tree (pq g p) (ye _) λH=>?_
 have d:=gW p hp 91 [.aF (ag g) 0] (by intro v k;simp at k;subst k;exact gh (bE g)) (λx=>!(decide (-1<=x) && decide (x < g.ai.length))) (λx n=>OP g h x (m x n)) (by kernel_rfl)
 refine aw.of mixed Af ?_
 unfold aH at hp
 simp(disch:=omega)only[↓wr,seval,wq,wT,ag,encS]
 refine av.pure (ng g h j.names) ?_
 simp only[ag,encS] at d
 have bad:(aO g && decide (p.length<=60) && Da g p)=false->mn (pB g p)=.bm [gb false,gi 1]:=λe=>by
  unfold pB;rw[U8 (by rw[e];simp)];rfl
 simp(disch:=omega)only[↓wr,seval,wq]
 apply ah.split<;>intro hr
 .simp(disch:=omega)only[↓wr,seval,wq,encI]
  apply ah.dec<;>intro o
  .simp(disch:=omega)only[↓wr,seval,wq]
   exact(bad (by rw[decide_eq_false (show ¬ p.length<=60 by omega)];simp)).symm
  .simp(disch:=omega)only[↓wr,seval,wq]
   refine av.pure d ?_
   simp(disch:=omega)only[↓wr,seval,wq]
   apply ah.split<;>intro a
   .simp(disch:=omega)only[↓wr,seval,wq]
    rw[<-List.not_all_eq_any_not] at a
    exact(bad (by rw[show Da g p=false by simpa [Da] using a];simp)).symm
   .rw[<-List.not_all_eq_any_not] at a
    have i:Da g p=true:=by simpa [Da] using a
    have b:p.length<=60:=by omega
    simp(disch:=omega)only[↓wr,seval,wq]
    have f:=CA g h hr j p b H
    simp only[ag,encS] at f
    refine av.eD (f.mono ?_)
    rintro r H1 ⟨c,S,B,rfl,q,l,a⟩
    simp(disch:=omega)only[↓wr,seval,wq]
    refine av.eD ((FC c g (aK hr) p b _ S B _ H1 q l).mono ?_)
    rintro r s rfl
    simp(disch:=omega)only[↓wr,seval,wq]
    rw[pB,Va (by rw[hr,i,Wn b];rfl),Dr hr l a];rfl
 .simp(disch:=omega)only[↓wr,seval,wq]
  exact(bad (by rw[hr];simp)).symm
noncomputable def preB (g:ae) (w:List Int):Bool:=@decide (zB g w g.start 0) (Classical.propDecidable _)
theorem Ab {g:ae} {w:List Int} : preB g w=true↔zB g w g.start 0:=by
 unfold preB
 simp
noncomputable def iu (g:ae) (w:List Int):Bool × Int:=if fQ g w=true then (if (dV g).2.2=0 then preB (dV g).1 w else false,0) else (false,1)
def tt:SF:=⟨af [ab [cd 2 0,bu 4 false,aT 5 0],af [ab [aU 9 4 2,aa 10 1,ba 11 52 [9,10],cb 12 11],bg 12 (af [ab [bu 4 false,aT 5 1],.ret])],ab [aU 14 4 2,ba 15 92 [14],aa 13 15,cZ 16 0 13,cZ 17 1 13,cZ 18 2 13,((some 6),.op (.alloc [(.emp 1),(.emp 1),(.emp 1),(.val (.int .i64 0))])),cG 4 6 16,aa 7 17,aa 8 18],af [ab [aa 19 8,aE 20 .neq 19 0],bg 20 (af [ab [bu 4 false,aT 5 0],.ret])],ab [aU 21 4 6,aa 22 1,ba 23 53 [21,22],ed 24 23,au 25 6 24,aj 26 25,aa 27 1,aP 28 27,aM 29 1 26 28,aj 30 29,aP 31 30,aE 32 .gtr 31 0,aa 4 32,aT 5 0],.ret],
 [.tmp 4,.tmp 5],33⟩
theorem xX:aQ Tryz.prog 46 [2]=some tt:=by kernel_rfl
theorem AM (g:ae) (p:g.Ok) (q:g.Small) (w:List Int) (hw:aH w) (z:∀ x∈w,bD x):ay Tryz.prog 46 [.agg (ag g),encI w] (mn (iu g w)):=by
 refine ay.tree (pq g w) (ye _) λH=>?_
 refine aw.of mixed xX ?_
 simp(disch:=omega)only[↓wr,seval,wq,tt,ag,encS]
 have k:=Gy g p q w hw z
 have f:=(Lz g p q).pure
 simp only[ag,encS] at k f
 refine av.pure k ?_
 simp(disch:=omega)only[↓wr,seval,wq]
 apply ah.split<;>intro h
 .have i:=h
  simp only[fQ,Vd,Vj] at i
  have hr:=i.1.1
  simp(disch:=omega)only[↓wr,seval,wq]
  refine av.pure f ?_
  by_cases hp:(ak g true).getD g.start.toNat false=true
  .have d:=F7 hr hp
   have he:dV g=(iT g (bw (bL (ak g true) (bp g) g.rules)) (ak g true) (bp g),cT (ak g true) (bp g) g.rules 0,0):=by rw[gZ hr,Va hp]
   have t:iu g w=(preB (iT g (bw (bL (ak g true) (bp g) g.rules)) (ak g true) (bp g)) w,0):=by rw[iu,Va h,he];rfl
   rw[t,he]
   generalize iT g (bw (bL (ak g true) (bp g) g.rules)) (ak g true) (bp g)=r at d
   have m:=d.th
   simp(disch:=omega)only[↓wr,↓reduceIte,wq,Nat.reduceEqDiff,Nat.reduceAdd,Nat.reduceLT,Nat.reduceLeDiff,Int.reduceNeg,Int.reduceToNat,reduceCtorEq,vQ,ag,encS]
   intro b A
   refine ah.ne (λe=>absurd rfl e) (λ_=>?_)
   have f:=CA r (d.ok p) m (d.small q) w i.1.2 ((H.set b (.arr 4 [[.emp 1,.emp 1,.emp 1,gi 0]])).set b (.arr 4 [[.aS (r.ai.map cO),.aS (r.ao.map λs=>[gs s]),.aS (r.rules.map aW),gi r.start]]))
   simp only[ag,encS] at f
   simp(disch:=omega)only[↓wr,seval,wq]
   refine av.eD (f.mono ?_)
   rintro x H1 ⟨c,S,B,rfl,C,v,D⟩
   obtain⟨E,F,L,n,j,G⟩:=C.set (a:=w.length) (by omega)
   have u:w.length < w.length+1:=by omega
   simp(disch:=omega)only[↓wr,seval,wq,n,encI,j,iL u,G.len]
   refine⟨by omega,by simp,?_⟩
   have I:decide (((S w.length).length:Int) > 0)=preB r w:=by
    have o:=Lm m D v.sound v.top
    rw[V1,Ab,<-o]
    simp only[Vj]
    constructor
    .intro y
     cases J:S w.length with
     | nil=>rw[J] at y;simp at y
     | cons x l=>exact⟨x,by simp⟩
    .rintro⟨x,K⟩
     have:=List.length_pos_of_mem K
     omega
   rw[<-I];rfl
  .have he:dV g=(Cp,[],9):=by rw[gZ hr,U8 hp]
   have t:iu g w=(false,0):=by rw[iu,Va h,he];rfl
   rw[t,he]
   simp(disch:=omega)only[↓wr,↓reduceIte,wq,Nat.reduceEqDiff,Nat.reduceAdd,Nat.reduceLT,Nat.reduceLeDiff,Int.reduceNeg,Int.reduceToNat,reduceCtorEq,vQ,ag,encS]
   intro b A
   refine ah.ne (λ_=>?_) (λe=>absurd e (by decide))
   simp(disch:=omega)only[↓wr,seval,wq]
   rfl
 .simp(disch:=omega)only[↓wr,seval,wq]
  rw[iu,h];rfl
abbrev Pt:=List (List Bool)
def FN (P:Pt) (n i:Nat):Bool:=(P.getD n []).getD i false
def QJ (P:Pt) (l:List Int) (now:List Bool) (i f a:Nat):Bool:=decide (f<=a) && now.getD a false && decide (l.getD i 0 < 0) && FN P (-1 - l.getD i 0).toNat a
def Qs (p:List Int) (T:Tb) (P:Pt) (l:List Int) (f i:Nat):Bool:=(Bl p T (l.take i) f).getD p.length false || (decide (i < l.length) && (List.range p.length).any λa=>QJ P l (Bl p T (l.take i) f) i f a)
def E6 (p:List Int) (T:Tb) (P:Pt) (l:List Int) (f:Nat):Bool:=(List.range (l.length+1)).any λi=>Qs p T P l f i
def Bb:List Int:=[37,37,32,115,32,58,32,39,97,39,32,115,32,124,32,59]
def Ci:List Int:=[37,37,32,115,32,58,32,115,32,115,32,124,32,110,32,39,97,39,32,110,32,39,98,39,32,124,32,59,32,110,32,58,32,110,32,124,32,59]
def iO:ae:=⟨[⟨⟨#[39,97,39]⟩,0,0⟩],[⟨#[115]⟩],[⟨0,[0,(-1)],0⟩,⟨0,[],(-1)⟩],0⟩
def dW:ae:=⟨[⟨⟨#[39,97,39]⟩,0,0⟩,⟨⟨#[39,98,39]⟩,0,0⟩],[⟨#[115]⟩,⟨#[110]⟩],[⟨0,[(-1),(-1)],(-1)⟩,⟨0,[(-2),0,(-2),1],1⟩,⟨0,[],(-1)⟩,⟨1,[(-2)],(-1)⟩,⟨1,[],(-1)⟩],0⟩
theorem TG:cx Tryz.prog 44 [yy Bb] (mV iO):=Jx (by kernel_rfl)
theorem Tw:cx Tryz.prog 44 [yy Ci] (mV dW):=Jx (by kernel_rfl)
theorem QC:iO.Ok:=by
 refine⟨by unfold aH;decide,by unfold aH;decide,by unfold aH;decide,by unfold bD;decide,?_,?_⟩
 .intro t a;simp[iO] at a;rcases a with rfl;unfold bD;decide
 .intro r hr;simp[iO] at hr;rcases hr with rfl | rfl <;> unfold bD aH <;> decide
theorem P3:dW.Ok:=by
 refine⟨by unfold aH;decide,by unfold aH;decide,by unfold aH;decide,by unfold bD;decide,?_,?_⟩
 .intro t a;simp[dW] at a;rcases a with rfl | rfl <;> unfold bD <;> decide
 .intro r hr;simp[dW] at hr;rcases hr with rfl | rfl | rfl | rfl | rfl <;> unfold bD aH <;> decide
theorem HS:iO.Small:=⟨by decide⟩
theorem It:dW.Small:=⟨by decide⟩
def mK (g:ae) (p:List Int) (T:Tb):Bool:=g.rules.all λR=>decide (0<=R.left) && (List.range (p.length+1)).all λi=>(List.range (p.length+1)).all λj=>!(decide (i<=j)) || !((Bl p T R.right i).getD j false) || se T R.left.toNat i j
def Dh (g:ae) (p:List Int) (T:Tb) (P:Pt):Bool:=g.rules.all λR=>(List.range (p.length+1)).all λf=>!(E6 p T P R.right f) || FN P R.left.toNat f
theorem TA {T:Tb} {N M n i j:Nat} (b:tD T N M) (h:se T n i j=true):n < N/\i < M/\j < M:=by
 have a:n < T.length:=by
  apply Wv
  intro a
  simp[se,U5,a] at h
 have hr:=b.2 T[n] (Vg a)
 have hi:i < T[n].length:=by
  apply Wv
  intro hi
  simp[se,U5,a,hi] at h
 have d:=hr.2 T[n][i] (Vg hi)
 have c:j < T[n][i].length:=by
  apply Wv
  intro c
  simp[se,U5,a,hi,c] at h
 exact⟨by rw[<-b.1];exact a,by omega,by omega⟩
section
variable {g:ae} {p:List Int} {T:Tb} {N:Nat}
theorem Sx (b:tD T N (p.length+1)) {l:List Int} {i j:Nat} (h:In p (Cd T) l i j):i<=p.length->j<=p.length:=by
 induction h with
 | nil=>exact id
 | term s l i j d e _ a =>
  intro _
  obtain⟨c,f,_⟩:=e
  have:=(Vf.1 f).1
  exact a (by omega)
 | dD s l i k j d hk _ a=>exact λ_=>a (by have:=TA b hk.2;omega)
theorem BP (d:tD T N (p.length+1)) (h:mK g p T=true):∀ R∈g.rules,∀ i j,i<=p.length->In p (Cd T) R.right i j->Cd T R.left.toNat i j:=by
 intro R e i j hi b
 have hle:=b.le Nr
 unfold mK at h
 rw[Vr] at h
 have h1:=h R e
 rw[Vd,Vr] at h1
 have c:=h1.2 i (by simp;omega)
 rw[Vr] at c
 have f:=Sx d b hi
 have a:=c j (by simp;omega)
 simp only[VP,Xc,WA] at a
 rcases a with (a | a) | a
 .exact absurd hle a
 .rw[(HC hi f).2 b] at a;simp at a
 .exact⟨hle,a⟩
theorem yM (h:mK g p T=true):∀ R∈g.rules,0<=R.left:=by
 intro R a
 unfold mK at h
 rw[Vr] at h
 have h1:=h R a
 rw[Vd] at h1
 simpa using h1.1
theorem J5 (b:tD T N (p.length+1)) (h:mK g p T=true) {l:List Int} {i j:Nat} (a:Sp g p l i j) (hi:i<=p.length):(Bl p T l i).getD j false=true :=
 (HC hi (a.len hi)).2 (QZ (yM h) (BP b h) a hi)
theorem MA (c:tD T N (p.length+1)) (h:mK g p T=true) (hr:aO g=true) (b:se T g.start.toNat 0 p.length=false):me g p=false:=by
 have d:=aK hr
 have f:=d.ic
 rw[Bool.eq_false_iff,Ne,mj hr]
 intro e
 have a:=QZ (yM h) (BP c h) e (by omega)
 rw[In.one,stepT,U8 (by omega)] at a
 rw[show -1 - (-1 - g.start)=g.start by omega] at a
 rw[a.2] at b;simp at b
theorem Sn (l:tD T N (p.length+1)) (h:mK g p T=true) {P:Pt} (k:Dh g p T P=true) {n:Int} {f:Nat} (hp:zB g p n f):f<=p.length->FN P n.toNat f=true:=by
 have c:∀ R∈g.rules,∀ f,f<=p.length->E6 p T P R.right f=true->FN P R.left.toNat f=true:=by
  intro R d f b m
  unfold Dh at k
  rw[Vr] at k
  have h1:=k R d
  rw[Vr] at h1
  have i:=h1 f (by simp;omega)
  rw[m] at i
  simpa using i
 induction hp with
 | full R j o f d e q =>
  intro b
  refine c R d f b ?_
  unfold E6
  rw[WC]
  refine⟨j.length,by simp[e];omega,?_⟩
  simp only[Qs,VP]
  left
  rw[e,List.take_left]
  exact J5 l h q b
 | deep R j o s f a d e r h1 i _ t =>
  intro b
  refine c R d f b ?_
  unfold E6
  rw[WC]
  refine⟨j.length,by simp[e];omega,?_⟩
  simp only[Qs,VP,Vd,Vj,WC]
  right
  refine⟨by simp[e],a,by simpa using i,?_⟩
  have u:R.right.getD j.length 0=s:=by simp[U5,e]
  simp only[QJ,u,Vd,Vj]
  rw[e,List.take_left]
  exact⟨⟨⟨h1.le,J5 l h h1 b⟩,r⟩,t (by omega)⟩
theorem Ry (b:tD T N (p.length+1)) (h:mK g p T=true) {P:Pt} (c:Dh g p T P=true) (a:FN P g.start.toNat 0=false):preB g p=false:=by
 rw[Bool.eq_false_iff,Ne,Ab]
 intro hp
 rw[Sn b h c hp (by omega)] at a;simp at a
end
theorem UO:aO iO=true:=by kernel_rfl
theorem Q5:aO dW=true:=by kernel_rfl
theorem TN:dV dW=(dW,[0,1,2,3,4],0):=by kernel_rfl
theorem kz {p:List Int} {i:Nat} {s c:Int} (h:p[i]?=some c) (a:c=s∨c = -1):jx p i s:=⟨c,h,a⟩
theorem n6 (p:List Int) (i:Nat):Sp dW p [-2] i i:=.dD (-2) [] ⟨1,[],-1⟩ i i i (by decide) (by simp[dW]) (by decide) (.nil i) (.nil i)
theorem r6 {p:List Int} {i:Nat} (a:jx p i 0) (h1:jx p (i+1) 1):Sp dW p [-2,0,-2,1] i (i+2) :=
 (n6 p i).app (.term 0 [-2,1] i (i+2) (by decide) a ((n6 p (i+1)).app (.term 1 [] (i+1) (i+2) (by decide) h1 (.nil _))))
theorem s6 {p:List Int} {i:Nat} (a:jx p i 0) (h1:jx p (i+1) 1):Sp dW p [-1] i (i+2) :=
 .dD (-1) [] ⟨0,[(-2),0,(-2),1],1⟩ i (i+2) (i+2) (by decide) (by simp[dW]) (by decide) (r6 a h1) (.nil _)
theorem UG:ko iO [0,0]=(true,0):=by
 have:me iO [0,0]=true:=(mj UO _).2 (by
  have e:Sp iO [0,0] [-1] 2 2:=.dD (-1) [] ⟨0,[],-1⟩ 2 2 2 (by decide) (by simp[iO]) (by decide) (.nil _) (.nil _)
  have f:Sp iO [0,0] [-1] 1 2:=.dD (-1) [] ⟨0,[0,-1],0⟩ 1 2 2 (by decide) (by simp[iO]) (by decide) (.term 0 [-1] 1 2 (by decide) (kz rfl (.inl rfl)) e) (.nil _)
  exact .dD (-1) [] ⟨0,[0,-1],0⟩ 0 2 2 (by decide) (by simp[iO]) (by decide) (.term 0 [-1] 0 2 (by decide) (kz rfl (.inl rfl)) f) (.nil _))
 rw[ko,Va (by kernel_rfl),this]
theorem UM:ko iO [1]=(false,1):=by
 rw[ko,U8 (by rw[show fQ iO [1]=false by kernel_rfl];simp)]
theorem UU:ko dW [0,1,0,1]=(true,0):=by
 have:me dW [0,1,0,1]=true:=(mj Q5 _).2 (.dD (-1) [] ⟨0,[-1,-1],-1⟩ 0 4 4 (by decide) (by simp[dW]) (by decide) ((s6 (kz rfl (.inl rfl)) (kz rfl (.inl rfl))).app (s6 (kz rfl (.inl rfl)) (kz rfl (.inl rfl)))) (.nil _))
 rw[ko,Va (by kernel_rfl),this]
def QI:Tb:=[[[true,false,false],[false,true,false],[false,false,true]],[[true,false,false],[false,true,false],[false,false,true]]]
theorem UN:ko dW [0,0]=(false,0):=by
 have:me dW [0,0]=false:=MA (T:=QI) (N:=2) (by unfold tD QI;decide) (by kernel_rfl) Q5 (by kernel_rfl)
 rw[ko,Va (by kernel_rfl),this]
theorem U1:pB dW [-1,1]=(true,0):=by
 have:me dW [-1,1]=true:=(mj Q5 _).2 (s6 (kz rfl (.inr rfl)) (kz rfl (.inl rfl)))
 rw[pB,Va (by kernel_rfl),this]
def E4:Tb:=[[[true,false],[false,true]],[[true,false],[false,true]]]
theorem UY:pB dW [-1]=(false,0):=by
 have:me dW [-1]=false:=MA (T:=E4) (N:=2) (by unfold tD E4;decide) (by kernel_rfl) Q5 (by kernel_rfl)
 rw[pB,Va (by kernel_rfl),this]
theorem UP:iu dW [0,1,0]=(true,0):=by
 have:preB dW [0,1,0]=true:=Ab.2 (.deep ⟨0,[-1,-1],-1⟩ [-1] [] (-1) 0 2 (by simp[dW]) rfl (by decide) (s6 (kz rfl (.inl rfl)) (kz rfl (.inl rfl))) (by decide)
  (.full ⟨0,[(-2),0,(-2),1],1⟩ [-2,0] [-2,1] 2 (by simp[dW]) rfl ((n6 _ 2).app (.term 0 [] 2 3 (by decide) (kz rfl (.inl rfl)) (.nil _)))))
 rw[iu,Va (by kernel_rfl),TN]
 simp[this]
theorem UX:iu dW [1]=(false,0):=by
 have:preB dW [1]=false:=Ry (T:=E4) (N:=2) (P:=[[false,true],[false,true]]) (by unfold tD E4;decide) (by kernel_rfl) (by kernel_rfl) (by kernel_rfl)
 rw[iu,Va (by kernel_rfl),TN]
 simp[this]
theorem ji (x:Bool × Int):yh (mn x):=.bm _ λi hi=>by
 match i,hi with
 | 0,_=>exact⟨_,rfl⟩
 | 1,_=>exact⟨_,rfl⟩
def oG:SF:=⟨af [ab [bu 0 false],ab [((some 24),.op (.bG 16 1 [(.val (.int .u8 0))] [(0,(.val (.val (.int .u8 37)))),(1,(.val (.val (.int .u8 37)))),(2,(.val (.val (.int .u8 32)))),(3,(.val (.val (.int .u8 115)))),(4,(.val (.val (.int .u8 32)))),(5,(.val (.val (.int .u8 58)))),(6,(.val (.val (.int .u8 32)))),(7,(.val (.val (.int .u8 39)))),(8,(.val (.val (.int .u8 97)))),(9,(.val (.val (.int .u8 39)))),(10,(.val (.val (.int .u8 32)))),(11,(.val (.val (.int .u8 115)))),(12,(.val (.val (.int .u8 32)))),(13,(.val (.val (.int .u8 124)))),(14,(.val (.val (.int .u8 32)))),(15,(.val (.val (.int .u8 59))))])),((some 25),.op (.old (.convert 90 90 (.tmp 24)) 90)),ba 26 44 [25],aa 23 26,cZ 27 0 23,cZ 28 1 23,cZ 29 2 23,((some 1),.op (.alloc [(.emp 1),(.emp 1),(.emp 1),(.val (.int .i64 0))])),cG 4 1 27,aa 2 28,aa 3 29],ab [((some 31),.op (.bG 38 1 [(.val (.int .u8 0))] [(0,(.val (.val (.int .u8 37)))),(1,(.val (.val (.int .u8 37)))),(2,(.val (.val (.int .u8 32)))),(3,(.val (.val (.int .u8 115)))),(4,(.val (.val (.int .u8 32)))),(5,(.val (.val (.int .u8 58)))),(6,(.val (.val (.int .u8 32)))),(7,(.val (.val (.int .u8 115)))),(8,(.val (.val (.int .u8 32)))),(9,(.val (.val (.int .u8 115)))),(10,(.val (.val (.int .u8 32)))),(11,(.val (.val (.int .u8 124)))),(12,(.val (.val (.int .u8 32)))),(13,(.val (.val (.int .u8 110)))),(14,(.val (.val (.int .u8 32)))),(15,(.val (.val (.int .u8 39)))),(16,(.val (.val (.int .u8 97)))),(17,(.val (.val (.int .u8 39)))),(18,(.val (.val (.int .u8 32)))),(19,(.val (.val (.int .u8 110)))),(20,(.val (.val (.int .u8 32)))),(21,(.val (.val (.int .u8 39)))),(22,(.val (.val (.int .u8 98)))),(23,(.val (.val (.int .u8 39)))),(24,(.val (.val (.int .u8 32)))),(25,(.val (.val (.int .u8 124)))),(26,(.val (.val (.int .u8 32)))),(27,(.val (.val (.int .u8 59)))),(28,(.val (.val (.int .u8 32)))),(29,(.val (.val (.int .u8 110)))),(30,(.val (.val (.int .u8 32)))),(31,(.val (.val (.int .u8 58)))),(32,(.val (.val (.int .u8 32)))),(33,(.val (.val (.int .u8 110)))),(34,(.val (.val (.int .u8 32)))),(35,(.val (.val (.int .u8 124)))),(36,(.val (.val (.int .u8 32)))),(37,(.val (.val (.int .u8 59))))])),((some 32),.op (.old (.convert 90 90 (.tmp 31)) 90)),ba 33 44 [32],aa 30 33,cZ 34 0 30,cZ 35 1 30,cZ 36 2 30,((some 4),.op (.alloc [(.emp 1),(.emp 1),(.emp 1),(.val (.int .i64 0))])),cG 4 4 34,aa 5 35,aa 6 36],ab [aU 38 4 1,((some 39),.op (.bG 2 1 [(.val (.int .i64 0))] [(0,(.val (.val (.int .i64 0)))),(1,(.val (.val (.int .i64 0))))])),ba 40 19 [38,39],aa 37 40,cZ 41 0 37,cZ 42 1 37,aa 7 41,aa 8 42],ab [aU 44 4 4,((some 45),.op (.bG 4 1 [(.val (.int .i64 0))] [(0,(.val (.val (.int .i64 0)))),(1,(.val (.val (.int .i64 1)))),(2,(.val (.val (.int .i64 0)))),(3,(.val (.val (.int .i64 1))))])),ba 46 19 [44,45],aa 43 46,cZ 47 0 43,cZ 48 1 43,aa 9 47,aa 10 48],ab [aU 50 4 4,((some 51),.op (.bG 2 1 [(.val (.int .i64 0))] [(0,(.val (.val (.int .i64 0)))),(1,(.val (.val (.int .i64 0))))])),ba 52 19 [50,51],aa 49 52,cZ 53 0 49,cZ 54 1 49,aa 11 53,aa 12 54],ab [aU 56 4 4,((some 57),.op (.bG 2 1 [(.val (.int .i64 0))] [(0,(.val (.val (.int .i64 (-1))))),(1,(.val (.val (.int .i64 1))))])),ba 58 45 [56,57],aa 55 58,cZ 59 0 55,cZ 60 1 55,aa 13 59,aa 14 60],ab [aU 62 4 4,((some 63),.op (.bG 1 1 [(.val (.int .i64 0))] [(0,(.val (.val (.int .i64 (-1)))))])),ba 64 45 [62,63],aa 61 64,cZ 65 0 61,cZ 66 1 61,aa 15 65,aa 16 66],ab [aU 68 4 4,((some 69),.op (.bG 3 1 [(.val (.int .i64 0))] [(0,(.val (.val (.int .i64 0)))),(1,(.val (.val (.int .i64 1)))),(2,(.val (.val (.int .i64 0))))])),ba 70 46 [68,69],aa 67 70,cZ 71 0 67,cZ 72 1 67,aa 17 71,aa 18 72],ab [aU 74 4 4,((some 75),.op (.bG 1 1 [(.val (.int .i64 0))] [(0,(.val (.val (.int .i64 1))))])),ba 76 46 [74,75],aa 73 76,cZ 77 0 73,cZ 78 1 73,aa 19 77,aa 20 78],ab [aU 80 4 1,((some 81),.op (.bG 1 1 [(.val (.int .i64 0))] [(0,(.val (.val (.int .i64 1))))])),ba 82 19 [80,81],aa 79 82,cZ 83 0 79,cZ 84 1 79,aa 21 83,aa 22 84],.region false [⟨none,[aa 85 7,aa 86 85]⟩,⟨(some (86,true)),[aa 87 9]⟩,⟨none,[c8 88 86 87,aa 89 88]⟩,⟨(some (89,true)),[aa 90 11,cb 91 90]⟩,⟨none,[c8 92 89 91,aa 93 92]⟩,⟨(some (93,true)),[aa 94 13]⟩,⟨none,[c8 95 93 94,aa 96 95]⟩,⟨(some (96,true)),[aa 97 15,cb 98 97]⟩,⟨none,[c8 99 96 98,aa 100 99]⟩,⟨(some (100,true)),[aa 101 17]⟩,⟨none,[c8 102 100 101,aa 103 102]⟩,⟨(some (103,true)),[aa 104 19,cb 105 104]⟩,⟨none,[c8 106 103 105,aa 107 106]⟩,⟨(some (107,true)),[aa 108 8,aE 109 .eql 108 0]⟩,⟨none,[c8 110 107 109,aa 111 110]⟩,⟨(some (111,true)),[aa 112 10,aE 113 .eql 112 0]⟩,⟨none,[c8 114 111 113,aa 115 114]⟩,⟨(some (115,true)),[aa 116 14,aE 117 .eql 116 0]⟩,⟨none,[c8 118 115 117,aa 119 118]⟩,⟨(some (119,true)),[aa 120 18,aE 121 .eql 120 0]⟩,⟨none,[c8 122 119 121,aa 123 122]⟩,⟨(some (123,true)),[aa 124 22,aE 125 .eql 124 1]⟩,⟨none,[c8 126 123 125,aa 0 126]⟩],.ret],
 [.tmp 0],127⟩
theorem uj:aQ Tryz.prog 13 []=some oG:=by kernel_rfl
theorem EP (g1 g2:ae) (p:g1.Ok) (k2:g2.Ok) (s1:g1.Small) (s2:g2.Small) (h1:cx Tryz.prog 44 [yy Bb] (mV g1)) (q:cx Tryz.prog 44 [yy Ci] (mV g2))
  (r:ko g1 [0,0]=(true,0)) (s:ko g2 [0,1,0,1]=(true,0)) (t:ko g2 [0,0]=(false,0)) (u:pB g2 [-1,1]=(true,0)) (v:pB g2 [-1]=(false,0)) (w:iu g2 [0,1,0]=(true,0)) (y:iu g2 [1]=(false,0)) (z:ko g1 [1]=(false,1)):ay Tryz.prog 13 [] (gb true):=by
 refine ay.val (by simp) λH=>?_
 refine aw.of mixed uj ?_
 simp(disch:=omega)only[↓wr,seval,wq,oG]
 intro n1 k
 try simp(disch:=omega)only[↓wr,seval,wq]
 generalize t1:Bb.map (λx=>[gy x])=n
 have d:=t1
 simp only[Bb,VF,Wg] at d
 rw[d]
 refine zN (id:=n1) (len:=16) Tryz.underlying90 Tryz.underlying5 rfl (by omega) (by simp only[View.set,if_true];rfl) ?_
 simp(disch:=omega)only[↓wr,seval,wq]
 refine av.K2 h1 (by kernel_rfl) ⟨Cj Bb (by simp only[View.set,if_true,t1]),trivial⟩ ?_
 clear t1 d k
 generalize H.set n1 (bT.arr 1 n)=H1
 clear H
 simp(disch:=omega)only[↓wr,seval,wq,mV,ag,encS]
 intro f o
 try simp(disch:=omega)only[↓wr,seval,wq]
 intro A j
 have d32:=(bS j bQ).1
 try simp(disch:=omega)only[↓wr,seval,wq]
 generalize t1:Ci.map (λx=>[gy x])=B
 have d:=t1
 simp only[Ci,VF,Wg] at d
 rw[d]
 refine zN (id:=A) (len:=38) Tryz.underlying90 Tryz.underlying5 rfl (by omega) (by simp only[View.set,if_true];rfl) ?_
 simp(disch:=omega)only[↓wr,seval,wq]
 refine av.K2 q (by kernel_rfl) ⟨Cj Ci (by simp only[View.set,if_true,t1]),trivial⟩ ?_
 clear t1 d
 simp(disch:=omega)only[↓wr,seval,wq,mV,ag,encS]
 intro g i
 have d43:=(bS i bQ).1
 have d42:=(bS (bS i bQ).2 bQ).1
 try simp(disch:=omega)only[↓wr,seval,wq,d32,d43,d42,d32.symm,d43.symm,d42.symm]
 intro m hm
 obtain⟨c,hm⟩:=bS hm bQ
 obtain⟨_,hm⟩:=bS hm bQ
 obtain⟨_,hm⟩:=bS hm bQ
 obtain⟨a4,hm⟩:=bS hm bQ
 have b:=uY g1 p s1 [0,0] (by unfold aH;decide) (λx a=>by simp at a; (try rcases a with rfl | rfl | rfl | rfl);all_goals (try rcases a with rfl | rfl | rfl);all_goals (try rcases a with rfl | rfl);all_goals (try subst a);all_goals (unfold bD;decide))
 rw[r] at b
 refine av.ql (λH=>H f=.arr 4 [ag g1]/\H g=.arr 4 [ag g2]) b (by kernel_rfl) (ji _) ⟨dh.tree (bz _ (bE g1)),fO (l:=[0,0]) (by simp[View.set]) rfl,trivial⟩ (by simp[View.set,c.symm,a4.symm,d32,d42,d43,d32.symm,d42.symm,d43.symm,ag,encS]) ?_
 clear hm c a4 o j i
 rintro h ⟨f2,f4⟩
 simp only[ag,encS] at f2 f4
 simp(disch:=omega)only[↓wr,seval,wq,f2,f4,mn]
 intro m hm
 have a4:m≠f:=λe=>by rw[e,f2] at hm;simp at hm
 have c:m≠g:=λe=>by rw[e,f4] at hm;simp at hm
 try simp(disch:=omega)only[↓wr,seval,wq,f2,f4]
 have b:=uY g2 k2 s2 [0,1,0,1] (by unfold aH;decide) (λx a=>by simp at a; (try rcases a with rfl | rfl | rfl | rfl);all_goals (try rcases a with rfl | rfl | rfl);all_goals (try rcases a with rfl | rfl);all_goals (try subst a);all_goals (unfold bD;decide))
 rw[s] at b
 refine av.ql (λH=>H f=.arr 4 [ag g1]/\H g=.arr 4 [ag g2]) b (by kernel_rfl) (ji _) ⟨dh.tree (bz _ (bE g2)),fO (l:=[0,1,0,1]) (by simp[View.set]) rfl,trivial⟩ (by simp[View.set,c.symm,a4.symm,d32,d42,d43,d32.symm,d42.symm,d43.symm,ag,encS,f2,f4]) ?_
 clear hm c a4 f2 f4 h
 rintro h ⟨f2,f4⟩
 simp only[ag,encS] at f2 f4
 simp(disch:=omega)only[↓wr,seval,wq,f2,f4,mn]
 intro m hm
 have a4:m≠f:=λe=>by rw[e,f2] at hm;simp at hm
 have c:m≠g:=λe=>by rw[e,f4] at hm;simp at hm
 try simp(disch:=omega)only[↓wr,seval,wq,f2,f4]
 have b:=uY g2 k2 s2 [0,0] (by unfold aH;decide) (λx a=>by simp at a; (try rcases a with rfl | rfl | rfl | rfl);all_goals (try rcases a with rfl | rfl | rfl);all_goals (try rcases a with rfl | rfl);all_goals (try subst a);all_goals (unfold bD;decide))
 rw[t] at b
 refine av.ql (λH=>H f=.arr 4 [ag g1]/\H g=.arr 4 [ag g2]) b (by kernel_rfl) (ji _) ⟨dh.tree (bz _ (bE g2)),fO (l:=[0,0]) (by simp[View.set]) rfl,trivial⟩ (by simp[View.set,c.symm,a4.symm,d32,d42,d43,d32.symm,d42.symm,d43.symm,ag,encS,f2,f4]) ?_
 clear hm c a4 f2 f4 h
 rintro h ⟨f2,f4⟩
 simp only[ag,encS] at f2 f4
 simp(disch:=omega)only[↓wr,seval,wq,f2,f4,mn]
 intro m hm
 have a4:m≠f:=λe=>by rw[e,f2] at hm;simp at hm
 have c:m≠g:=λe=>by rw[e,f4] at hm;simp at hm
 try simp(disch:=omega)only[↓wr,seval,wq,f2,f4]
 have b:=GQ g2 k2 s2 [-1,1] (by unfold aH;decide) (λx a=>by simp at a; (try rcases a with rfl | rfl | rfl | rfl);all_goals (try rcases a with rfl | rfl | rfl);all_goals (try rcases a with rfl | rfl);all_goals (try subst a);all_goals (unfold bD;decide))
 rw[u] at b
 refine av.ql (λH=>H f=.arr 4 [ag g1]/\H g=.arr 4 [ag g2]) b (by kernel_rfl) (ji _) ⟨dh.tree (bz _ (bE g2)),fO (l:=[-1,1]) (by simp[View.set]) rfl,trivial⟩ (by simp[View.set,c.symm,a4.symm,d32,d42,d43,d32.symm,d42.symm,d43.symm,ag,encS,f2,f4]) ?_
 clear hm c a4 f2 f4 h
 rintro h ⟨f2,f4⟩
 simp only[ag,encS] at f2 f4
 simp(disch:=omega)only[↓wr,seval,wq,f2,f4,mn]
 intro m hm
 have a4:m≠f:=λe=>by rw[e,f2] at hm;simp at hm
 have c:m≠g:=λe=>by rw[e,f4] at hm;simp at hm
 try simp(disch:=omega)only[↓wr,seval,wq,f2,f4]
 have b:=GQ g2 k2 s2 [-1] (by unfold aH;decide) (λx a=>by simp at a; (try rcases a with rfl | rfl | rfl | rfl);all_goals (try rcases a with rfl | rfl | rfl);all_goals (try rcases a with rfl | rfl);all_goals (try subst a);all_goals (unfold bD;decide))
 rw[v] at b
 refine av.ql (λH=>H f=.arr 4 [ag g1]/\H g=.arr 4 [ag g2]) b (by kernel_rfl) (ji _) ⟨dh.tree (bz _ (bE g2)),fO (l:=[-1]) (by simp[View.set]) rfl,trivial⟩ (by simp[View.set,c.symm,a4.symm,d32,d42,d43,d32.symm,d42.symm,d43.symm,ag,encS,f2,f4]) ?_
 clear hm c a4 f2 f4 h
 rintro h ⟨f2,f4⟩
 simp only[ag,encS] at f2 f4
 simp(disch:=omega)only[↓wr,seval,wq,f2,f4,mn]
 intro m hm
 have a4:m≠f:=λe=>by rw[e,f2] at hm;simp at hm
 have c:m≠g:=λe=>by rw[e,f4] at hm;simp at hm
 try simp(disch:=omega)only[↓wr,seval,wq,f2,f4]
 have b:=AM g2 k2 s2 [0,1,0] (by unfold aH;decide) (λx a=>by simp at a; (try rcases a with rfl | rfl | rfl | rfl);all_goals (try rcases a with rfl | rfl | rfl);all_goals (try rcases a with rfl | rfl);all_goals (try subst a);all_goals (unfold bD;decide))
 rw[w] at b
 refine av.ql (λH=>H f=.arr 4 [ag g1]/\H g=.arr 4 [ag g2]) b (by kernel_rfl) (ji _) ⟨dh.tree (bz _ (bE g2)),fO (l:=[0,1,0]) (by simp[View.set]) rfl,trivial⟩ (by simp[View.set,c.symm,a4.symm,d32,d42,d43,d32.symm,d42.symm,d43.symm,ag,encS,f2,f4]) ?_
 clear hm c a4 f2 f4 h
 rintro h ⟨f2,f4⟩
 simp only[ag,encS] at f2 f4
 simp(disch:=omega)only[↓wr,seval,wq,f2,f4,mn]
 intro m hm
 have a4:m≠f:=λe=>by rw[e,f2] at hm;simp at hm
 have c:m≠g:=λe=>by rw[e,f4] at hm;simp at hm
 try simp(disch:=omega)only[↓wr,seval,wq,f2,f4]
 have b:=AM g2 k2 s2 [1] (by unfold aH;decide) (λx a=>by simp at a; (try rcases a with rfl | rfl | rfl | rfl);all_goals (try rcases a with rfl | rfl | rfl);all_goals (try rcases a with rfl | rfl);all_goals (try subst a);all_goals (unfold bD;decide))
 rw[y] at b
 refine av.ql (λH=>H f=.arr 4 [ag g1]/\H g=.arr 4 [ag g2]) b (by kernel_rfl) (ji _) ⟨dh.tree (bz _ (bE g2)),fO (l:=[1]) (by simp[View.set]) rfl,trivial⟩ (by simp[View.set,c.symm,a4.symm,d32,d42,d43,d32.symm,d42.symm,d43.symm,ag,encS,f2,f4]) ?_
 clear hm c a4 f2 f4 h
 rintro h ⟨f2,f4⟩
 simp only[ag,encS] at f2 f4
 simp(disch:=omega)only[↓wr,seval,wq,f2,f4,mn]
 intro m hm
 have a4:m≠f:=λe=>by rw[e,f2] at hm;simp at hm
 have c:m≠g:=λe=>by rw[e,f4] at hm;simp at hm
 try simp(disch:=omega)only[↓wr,seval,wq,f2,f4]
 have b:=uY g1 p s1 [1] (by unfold aH;decide) (λx a=>by simp at a; (try rcases a with rfl | rfl | rfl | rfl);all_goals (try rcases a with rfl | rfl | rfl);all_goals (try rcases a with rfl | rfl);all_goals (try subst a);all_goals (unfold bD;decide))
 rw[z] at b
 refine av.ql (λH=>H f=.arr 4 [ag g1]/\H g=.arr 4 [ag g2]) b (by kernel_rfl) (ji _) ⟨dh.tree (bz _ (bE g1)),fO (l:=[1]) (by simp[View.set]) rfl,trivial⟩ (by simp[View.set,c.symm,a4.symm,d32,d42,d43,d32.symm,d42.symm,d43.symm,ag,encS,f2,f4]) ?_
 clear hm c a4 f2 f4 h
 rintro h ⟨f2,f4⟩
 simp only[ag,encS] at f2 f4
 simp(disch:=omega)only[↓wr,seval,wq,f2,f4,mn]
 repeat' (first | (refine ah.eq (λ_=>?_) (λb=>absurd rfl b))|(refine ah.split (λ_=>?_) (λe=>absurd e (by decide))) | simp(disch:=omega)only[↓wr,seval,wq])
 all_goals rfl
theorem LL:ay Tryz.prog 13 [] (gb true):=EP iO dW QC P3 HS It TG Tw UG UU UN U1 UY UP UX UM
section
variable {g r:ae} {p q:List Bool} {o:List Int}
end
section
variable {fit:List Int->Bool} {T b:Nat}
end
def Tx (l:List (List Int)):V:=.aS (l.map λw=>[encI w])
abbrev TQ:=List (V × List Int)
def CH (b:TQ):List (List V):=b.map λx=>[x.1]
def PU (H:View) (u:V) (out:List (List Int)):Prop:=∃ b:TQ,b.map (·.2)=out/\aZ H u 1 (CH b)/\∀ x∈b,aZ H x.1 1 (bR x.2)
theorem PU.U2 {h:aB} {u:V} {out:List (List Int)} (d:PU h.view u out):cM h u (Tx out):=by
 obtain⟨b,rfl,d,f⟩:=d
 have c:∀ i (hi:i < b.length),(CH b).getD i []=[(b[i]).1]/\(((b.map (·.2)).map λw=>[encI w]).getD i [])=[encI (b[i]).2]:=λi hi=>by
  simp[CH,U5,hi]
 refine cM.own d (by simp[CH]) (λi hi=>?_) (λi j hi e=>?_)
 .have a:i < b.length:=by simpa [CH] using hi
  rw[(c i a).1,(c i a).2];rfl
 .have a:i < b.length:=by simpa [CH] using hi
  rw[(c i a).2] at e ⊢
  rw[(c i a).1]
  have:j=0:=by simp at e;omega
  subst this
  simp only[Wc]
  exact cM.Lk (f _ (Vg a))
section
variable {P:Program} {T:Env} {H:View} {K:V->View->Prop} {w:cP (T,H,K)} {t t1 e ty:TypeId}
end
def jn (H:View) (u:V) (l:List Int):Prop:=∃ (id off:Nat) (es:List (List V)),u=.sl id off l.length 1/\H id=.arr 1 es/\off+l.length<=es.length/\(es.drop off).take l.length=bR l
theorem jn.keep {H H':View} {u:V} {l:List Int} (h:jn H u l) (hk:∀ id es,H id=.arr 1 es->H' id=H id):jn H' u l:=by
 obtain⟨id,off,es,h1,a,b,c⟩:=h
 exact⟨id,off,es,h1,by rw[hk id es a];exact a,b,c⟩
theorem jn.fresh {H:View} {u:V} {l:List Int} (h:jn H u l) {n:Nat} {o:bT} (b:H n=.dead):jn (H.set n o) u l :=
 h.keep λid es a=>by
  have:id≠n:=by rintro rfl;rw[b] at a;simp at a
  simp[View.set,this]
theorem jn.own {H:View} {u:V} {l:List Int} (h:aZ H u 1 (bR l)) (a:l≠[]):jn H u l:=by
 rcases h with ⟨e,_⟩ | ⟨n,rfl,b⟩
 .rw[List.map_eq_nil_iff] at e;exact absurd e a
 .exact⟨n,0,_,by simp,b,by simp,by rw[Wm,Vn (by simp)]⟩
theorem BN {bytes:Nat} {u:V} {l xs:List Int} {H:View} {K:V->View->Prop} {w:cP (H,K)} (b:jn H u l) (f:xs≠[])
  (g:(l.length+xs.length) * bytes < aD) (c:l.length+xs.length < aD) (hk:∀ u' H',aZ H' u' 1 (bR (l ++ xs))->Left H H' u u'->K u' H'):k6 1 bytes u (bR xs) H K w:=by
 have he:(bR xs).isEmpty=false:=by cases xs with | nil=>exact absurd rfl f | cons=>rfl
 obtain⟨id,off,es,rfl,h,i,j⟩:=b
 rw[r5 _ _ _ _ _ _ _ _ _ _ he,h]
 refine⟨by simp[List.all_map,aJ],⟨i,rfl,by simpa using g,by simpa using c⟩,λm hm=>hk _ _ ?_ ?_⟩
 .refine .inr ⟨m,by simp,?_⟩
  rw[j];simp[View.set]
 .intro a d b
  have e:a≠m:=by rintro rfl;exact d hm
  have k:a≠id:=by rintro rfl;exact b rfl
  exact⟨by simp[View.set,e,k],by simp[owner,Ne.symm e]⟩
def Ku (x:List Int × Int × Int):V:=.bm [encI x.1,gi x.2.1,gi x.2.2]
theorem vG {h:aB} {u:V} {x:List Int × Int × Int} (hu:cM h u (encI x.1)):cM h (.bm [u,gi x.2.1,gi x.2.2]) (Ku x):=.bm _ _ rfl λi hi=>by
 match i,hi with
 | 0,_=>exact hu
 | 1,_=>exact .val _
 | 2,_=>exact .val _
theorem jn.all {H:View} {u:V} {l:List Int} (h:jn H u l):∃ (id off:Nat) (es:List (List V)),u=.sl id off l.length 1/\H id=.arr 1 es/\off+l.length<=es.length/\∀ j,j < l.length->es.getD (off+j) []=[gi (l.getD j 0)]:=by
 obtain⟨id,off,es,h1,c,d,e⟩:=h
 refine⟨id,off,es,h1,c,d,λj a=>?_⟩
 have b:=VT (λz=>z[j]?) e
 simp only[Wo,a,if_true,WY,U9,U6 a,Ve] at b
 rw[U5,b,U5,U6 a];rfl
theorem jn.take {H:View} {id off k:Nat} {l:List Int} (h:jn H (.sl id off k 1) l) {m:Nat} (hm:m<=l.length):jn H (.sl id off m 1) (l.take m):=by
 obtain⟨c,a,es,h1,d,f,e⟩:=h
 simp only[V.sl.injEq,and_true] at h1
 obtain⟨rfl,rfl,rfl⟩:=h1
 refine⟨id,off,es,by simp;omega,d,by simp;omega,?_⟩
 have b:=VT (List.take m) e
 rw[List.take_take,show min m l.length=m by omega] at b
 rw[show (l.take m).length=m by simp;omega,b]
 exact List.map_take.symm
theorem HT {id off k m:Nat} (hm:m<=k):gf 1 (.sl id off k 1) none (some (gi m))=some (.sl id off m 1,.none,[]):=by
 simp[gf,bound,asNat,hm]
theorem CV (g:ae) (t:gn) (w:List Int) (k:Nat) (st rs:List Int) (at_:Nat):gA g t w k st rs at_=(
  if (cX t (bM st) (bJ g w at_)).kind=3/\at_=w.length then (rs,(at_:Int),(0:Int))
  else if (cX t (bM st) (bJ g w at_)).kind=0∨(cX t (bM st) (bJ g w at_)).kind=3∨(cX t (bM st) (bJ g w at_)).kind=1/\at_=w.length then ([],(at_:Int),3)
  else match k with
   | 0=>([],(at_:Int),14)
   | k+1 =>
    if (cX t (bM st) (bJ g w at_)).kind=1 then gA g t w k (st ++ [(cX t (bM st) (bJ g w at_)).n]) rs (at_+1)
    else if st.length<=(az g (cX t (bM st) (bJ g w at_)).n).right.length then ([],(at_:Int),3)
    else if kJ t (bM (st.take (st.length - (az g (cX t (bM st) (bJ g w at_)).n).right.length))) (az g (cX t (bM st) (bJ g w at_)).n).left = -1 then ([],(at_:Int),3)
    else gA g t w k (st.take (st.length - (az g (cX t (bM st) (bJ g w at_)).n).right.length) ++ [kJ t (bM (st.take (st.length - (az g (cX t (bM st) (bJ g w at_)).n).right.length))) (az g (cX t (bM st) (bJ g w at_)).n).left])
     (rs ++ [(cX t (bM st) (bJ g w at_)).n]) at_):=by
 cases k <;> (conv=>lhs;unfold gA) <;> rfl
theorem S8 {es:List (List V)} {off:Nat} {st:List Int} (h:∀ j,j < st.length->es.getD (off+j) []=[gi (st.getD j 0)]) (a:0 < st.length):es.getD (off+((st.length:Int) - 1).toNat) []=[gi (bM st)]:=by
 have:=h (st.length - 1) (by omega)
 rw[show ((st.length:Int) - 1).toNat=st.length - 1 by omega,this,bM]
theorem xI {g:ae} {w:List Int} (hw:∀ x∈w,0<=x/\x < (g.ai.length:Int)) (i:Nat):0<=bJ g w i/\bJ g w i<=g.ai.length:=by
 unfold bJ
 split
 .rename_i h
  have:=hw _ (Vc (getD_some (d:=0) h))
  omega
 .omega
theorem OK (g:ae) (t:gn) (w:List Int):rS g t w=if (fQ g w && iU g t)=true then gA g t w 2000 [0] [] 0 else ([],0,1):=by
 unfold rS fQ vE
 rfl
theorem Qm (g:ae) (t:gn) (w:List Int):∀ v∈[V.agg (ag g),.agg (cB t),encI w],Tree v:=by
 intro v a;simp at a
 rcases a with rfl | rfl | rfl
 .exact bz _ (bE g)
 .exact bz _ (tO t)
 .exact eM w
theorem O8 {g:ae} {w:List Int} (h:fQ g w=true):w.length<=60/\∀ x∈w,0<=x/\x < (g.ai.length:Int):=by
 unfold fQ vE at h
 simp only[Vd,Vj,Vr] at h
 exact⟨h.1.2,h.2⟩
theorem Ey {g:ae} {n:Nat} {c:Cell} (h:gI g n c=true):(c.kind=0∨c.kind=3)∨(c.kind=1/\0<=c.n/\c.n < n)∨(c.kind=2/\0<=c.n/\c.n < g.rules.length):=by
 unfold gI at h
 split at h
 .rename_i e;exact .inl e
 .split at h
  .rename_i e;simp at h;exact .inr (.inl ⟨e,h⟩)
  .split at h
   .rename_i e;simp at h;exact .inr (.inr ⟨e,h⟩)
   .simp at h
def my:SC :=
 af [.block 1 (af [ab [au 31 0 3,aj 32 31,aP 33 32,aa 13 33],af [ab [aa 34 11,aa 35 2,aP 36 35,aV 37 .lss 34 36],bg 37 (ab [aa 38 2,aa 39 11,aM 40 1 38 39,aj 41 40,aa 13 41])],ab [aa 42 9,aa 43 9,aP 44 43,aE 45 .sub 44 1,aM 46 1 42 45,aj 47 46,aa 14 47],ab [au 48 0 4,aj 49 48,aa 50 14,aM 51 1 49 50,aj 52 51,aa 53 13,aM 54 2 52 53,aU 55 2 54,((some 15),.op (.alloc [(.val (.int .i64 0)),(.val (.int .i64 0))])),cG 2 15 55],af [.region false [⟨none,[au 56 0 15,aj 57 56,aE 58 .eql 57 3,aa 59 58]⟩,⟨(some (59,true)),[aa 60 11,aa 61 2,aP 62 61,aV 63 .eql 60 62]⟩,⟨none,[c8 64 59 63]⟩],bg 64 (af [ab [aa 65 10,aa 66 11,aa 6 65,aa 7 66,aT 8 0],.ret])],af [.region false [⟨none,[au 67 0 15,aj 68 67,aE 69 .eql 68 0,aa 70 69]⟩,⟨(some (70,false)),[au 71 0 15,aj 72 71,aE 73 .eql 72 3]⟩,⟨none,[bP 74 70 73,aa 75 74]⟩,⟨(some (75,false)),[au 76 0 15,aj 77 76,aE 78 .eql 77 1,aa 79 78]⟩,⟨(some (79,true)),[aa 80 11,aa 81 2,aP 82 81,aV 83 .eql 80 82]⟩,⟨(some (75,false)),[c8 84 79 83]⟩,⟨none,[bP 85 75 84]⟩],bg 85 (af [ab [aa 86 11,ct 6 1,aa 7 86,aT 8 3],.ret])],af [ab [aa 87 12,aE 88 .eql 87 2000],bg 88 (af [ab [aa 89 11,ct 6 1,aa 7 89,aT 8 14],.ret])],af [ab [au 90 0 15,aj 91 90,aE 92 .eql 91 1],bg 92 (af [ab [aa 93 9,au 94 1 15,aj 95 94,((some 96),.op (.bG 1 1 [(.val (.int .i64 0))] [(0,(.tmp 95))])),fM 97 1 8 93 96,aa 9 97],ab [aa 98 11,aE 99 .add 98 1,aa 11 99],.exit 1])],ab [au 100 2 3,aj 101 100,au 102 1 15,aj 103 102,aM 104 3 101 103,aU 105 3 104,((some 16),.op (.alloc [(.val (.int .i64 0)),(.emp 1),(.val (.int .i64 0))])),cG 3 16 105],af [ab [au 106 1 16,aj 107 106,aP 108 107,aa 109 9,aP 110 109,aV 111 .geq 108 110],bg 111 (af [ab [aa 112 11,ct 6 1,aa 7 112,aT 8 3],.ret])],ab [aa 113 9,aa 114 9,aP 115 114,au 116 1 16,aj 117 116,aP 118 117,aV 119 .sub 115 118,((some 120),.op (.slice 1 (.tmp 113) none (some (.tmp 119)))),aa 9 120],ab [au 121 1 4,aj 122 121,aa 123 9,aa 124 9,aP 125 124,aE 126 .sub 125 1,aM 127 1 123 126,aj 128 127,aM 129 1 122 128,aj 130 129,au 131 0 16,aj 132 131,aM 133 1 130 132,aj 134 133,aa 17 134],af [ab [aa 135 17,aE 136 .eql 135 (-1)],bg 136 (af [ab [aa 137 11,ct 6 1,aa 7 137,aT 8 3],.ret])],ab [aa 138 9,aa 139 17,((some 140),.op (.bG 1 1 [(.val (.int .i64 0))] [(0,(.tmp 139))])),fM 141 1 8 138 140,aa 9 141],ab [aa 142 10,au 143 1 15,aj 144 143,((some 145),.op (.bG 1 1 [(.val (.int .i64 0))] [(0,(.tmp 144))])),fM 146 1 8 142 145,aa 10 146]]),ab [aa 29 12,aE 30 .add 29 1,aa 12 30]]
def oA:SF:=⟨af [ab [cd 3 0,cd 4 1,ct 6 1,aT 7 0,aT 8 0],af [.region false [⟨none,[aU 18 4 3,aa 19 2,ba 20 17 [18,19],cb 21 20,aa 22 21]⟩,⟨(some (22,false)),[aU 23 4 3,aU 24 2 4,ba 25 51 [23,24],cb 26 25]⟩,⟨none,[bP 27 22 26]⟩],bg 27 (af [ab [ct 6 1,aT 7 0,aT 8 1],.ret])],ab [((some 28),.op (.bG 1 1 [(.val (.int .i64 0))] [(0,(.val (.val (.int .i64 0))))])),aa 9 28],ab [ct 10 1],ab [aT 11 0],ab [aT 12 0],bX 0 my],
 [.tmp 6,.tmp 7,.tmp 8],147⟩
theorem tV:aQ Tryz.prog 18 [3,4]=some oA:=by kernel_rfl
theorem Lp (g:ae) (hg:g.Ok) (t:gn) (ht:t.Ok) (w:List Int) (hw:aH w) (hn:∀ x∈w,bD x):cx Tryz.prog 18 [.agg (ag g),.agg (cB t),encI w] (Ku (rS g t w)):=by
 refine cx.of (Qm g t w) ?_
 have bn:=Eo g hg w hw hn
 have br:=Ky g hg t ht
 refine aw.of mixed tV ?_
 simp only[ag,encS,cB,encI] at bn br
 rw[OK]
 simp(disch:=omega)only[↓wr,seval,wq,oA,ag,encS,cB,encI]
 refine av.pure bn ?_
 simp(disch:=omega)only[↓wr,seval,wq]
 apply ah.split<;>intro C
 rotate_left
 .simp(disch:=omega)only[↓wr,seval,wq]
  intro p _
  rw[C]
  exact vG (x:=([],0,1)) (.emp _)
 simp(disch:=omega)only[↓wr,seval,wq,ag,encS,cB]
 refine av.pure br ?_
 simp(disch:=omega)only[↓wr,seval,wq]
 apply ah.split<;>intro O
 rotate_left
 .simp(disch:=omega)only[↓wr,seval,wq]
  intro p _
  rw[C,O]
  exact vG (x:=([],0,1)) (.emp _)
 have z:=ud O
 have hf:=aK z.right
 obtain⟨db,bs⟩:=O8 C
 rw[C,O]
 simp only[Bool.and_self,if_true]
 generalize hX:gA g t w 2000 [0] [] 0=X
 simp(disch:=omega)only[↓wr,seval,wq]
 intro m
 refine bc.up 2001 (λi T H'=>∃ (us ur:V) (st rs:List Int) (at_:Nat),i<=2000/\gA g t w (2000 - i) st rs at_=X/\F8 t st/\jn H' us st/\aZ H' ur 1 (bR rs)/\(∀ id,owner us=some id->owner ur≠some id)/\at_<=w.length/\st.length<=i+1/\rs.length<=i /\
  T 2=encI w/\T 3=.aF (ag g) 0/\T 4=.aF (cB t) 0/\T 9=us/\T 10=ur/\T 11=gi at_/\T 12=gi i) ?_ ?_
 .refine⟨.sl m 0 1 1,.emp 1,[0],[],0,by omega,hX,⟨by simp,by have:=z.n1;intro x hx;simp at hx;subst hx;omega⟩,?_,.nil,by simp[owner],by omega,by simp,by simp,rfl,rfl,rfl,rfl,rfl,rfl,rfl⟩
  exact jn.own (.inr ⟨m,rfl,by simp[View.set]⟩) (by simp)
 rintro i k T H' hk ⟨us,ur,st,rs,at_,hi,a,D,bx,cu,E,dj,dm,ds,t2,t3,t4,t9,t10,t11,t12⟩
 obtain⟨a1,a2⟩:=xI bs at_
 obtain⟨r,l,P,A,Q,dv,b0⟩:=bx.all
 have b1:=WR.2 D.1
 have b3:=D.2 _ (FQ D.1)
 have F:=S8 b0 b1
 obtain⟨ar,G⟩:=z.cell (s:=bM st) (x:=bJ g w at_) b3 ⟨a1,a2⟩
 rw[CV] at a
 have H:t.aY[(bM st).toNat]?=some (t.aY.getD (bM st).toNat []):=getD_some (by omega)
 have a6:=(z.nC (i:=(bM st).toNat) (by omega)).1
 generalize hc:cX t (bM st) (bJ g w at_)=c at a ar G
 generalize t.aY.getD (bM st).toNat []=row at H G a6
 simp(disch:=omega)only[↓wr,seval,wq,my,t2,t3,t4,t9,t10,t11,t12,ag,encS,encI]
 apply ah.dec<;>intro hx
 have a7:w[at_]?=some (bJ g w at_):=by
  unfold bJ;rw[Va (by omega)];exact getD_some (by omega)
 simp(disch:=omega)only[↓wr,seval,wq,t2,t3,t4,t9,t10,t11,t12,cB,encI,U9,a7,Ve,A,Q,F,H,G,cK]
 rotate_left
 have a7:bJ g w at_=g.ai.length:=by unfold bJ;rw[U8 (by omega)]
 rw[a7,VD] at G
 simp(disch:=omega)only[↓wr,seval,wq,t2,t3,t4,t9,t10,t11,t12,cB,encI,U9,Ve,A,Q,F,H,G,cK]
 rotate_left
 all_goals (
  refine⟨by omega,by omega,λb hb=>?_⟩
  rw[set_set]
  have d:(H'.set b (.arr 2 [[gi c.kind,gi c.n]])) b=.arr 2 [[gi c.kind,gi c.n]]:=by simp[View.set]
  have I:=bx.fresh hb (o:=.arr 2 [[gi c.kind,gi c.n]])
  have y:=cu.fresh hb (o:=.arr 2 [[gi c.kind,gi c.n]])
  have b4:¬ b=r:=by rintro rfl;rw[Q] at hb;simp at hb
  have J:(H'.set b (.arr 2 [[gi c.kind,gi c.n]])) r=.arr 1 P:=by simp[View.set,Ne.symm b4,Q]
  generalize H'.set b (.arr 2 [[gi c.kind,gi c.n]])=H5 at d I y J
  have eX:∀ (e:Int) (p:aB),X=([],(at_:Int),e)->cM p (.bm [.emp 1,gi at_,gi e]) (Ku X):=λe p hX=>by rw[hX];exact vG (x:=([],(at_:Int),e)) (.emp _)
  apply ah.eq<;>intro k3
  .simp(disch:=omega)only[↓wr,seval,wq,t2,t3,t4,t9,t10,t11,t12,d,encI]
   apply ah.eq<;>intro ha
   .simp(disch:=omega)only[↓wr,seval,wq,t2,t3,t4,t9,t10,t11,t12,d]
    rintro p rfl
    rw[Va ⟨k3,by omega⟩] at a
    rw[<-a]
    exact vG (x:=(rs,(at_:Int),0)) (kn y)
   .rw[U8 (by omega),Va (.inr (.inl k3))] at a
    simp(disch:=omega)only[↓wr,seval,wq,t2,t3,t4,t9,t10,t11,t12,d]
    refine ah.eq (λh=>by omega) (λ_=>?_)
    simp(disch:=omega)only[↓wr,seval,wq,t2,t3,t4,t9,t10,t11,t12,d]
    refine ah.eq (λ_=>?_) (λh=>absurd k3 h)
    simp(disch:=omega)only[↓wr,seval,wq,t2,t3,t4,t9,t10,t11,t12,d]
    intro p _
    exact eX 3 p a.symm
  simp(disch:=omega)only[↓wr,seval,wq,t2,t3,t4,t9,t10,t11,t12,d]
  apply ah.eq<;>intro k0
  .rw[U8 (by omega),Va (.inl k0)] at a
   simp(disch:=omega)only[↓wr,seval,wq,t2,t3,t4,t9,t10,t11,t12,d]
   intro p _
   exact eX 3 p a.symm
  simp(disch:=omega)only[↓wr,seval,wq,t2,t3,t4,t9,t10,t11,t12,d]
  refine ah.eq (λh=>absurd h k3) (λ_=>?_)
  simp(disch:=omega)only[↓wr,seval,wq,t2,t3,t4,t9,t10,t11,t12,d]
  apply ah.eq<;>intro k1
  .simp(disch:=omega)only[↓wr,seval,wq,t2,t3,t4,t9,t10,t11,t12,d,encI]
   apply ah.eq<;>intro ha
   .rw[U8 (by omega),Va (.inr (.inr ⟨k1,by omega⟩))] at a
    simp(disch:=omega)only[↓wr,seval,wq,t2,t3,t4,t9,t10,t11,t12,d]
    intro p _
    exact eX 3 p a.symm
   rw[U8 (by omega),U8 (by omega)] at a
   simp(disch:=omega)only[↓wr,seval,wq,t2,t3,t4,t9,t10,t11,t12,d]
   apply ah.eq<;>intro hn
   .rw[show 2000 - i=0 by omega] at a
    simp(disch:=omega)only[↓wr,seval,wq,t2,t3,t4,t9,t10,t11,t12,d]
    intro p _
    exact eX 14 p a.symm
   obtain⟨k2,ek⟩:∃ k2,2000 - i=k2+1:=⟨2000 - i - 1,by omega⟩
   rw[ek] at a
   simp only[k1,if_true] at a
   simp(disch:=omega)only[↓wr,seval,wq,t2,t3,t4,t9,t10,t11,t12,d]
   refine ah.eq (λ_=>?_) (λh=>absurd k1 h)
   simp(disch:=omega)only[↓wr,seval,wq,t2,t3,t4,t9,t10,t11,t12,d]
   have b5:0<=c.n/\c.n < t.aY.length:=by rcases Ey ar with h | h | h <;> omega
   intro q hq
   simp(disch:=omega)only[↓wr,seval,wq,t2,t3,t4,t9,t10,t11,t12,bt]
   refine BN (xs:=[c.n]) (I.fresh hq (o:=.arr 1 [[gi c.n]])) (by simp) (by unfold aD;simp;omega) (by unfold aD;simp;omega) ?_
   intro S H6 o2 l2
   have u:=(y.fresh hq (o:=.arr 1 [[gi c.n]]))
   simp(disch:=omega)only[↓wr,seval,wq,t2,t3,t4,t9,t10,t11,t12]
   refine aI hk (by omega) ⟨S,ur,st ++ [c.n],rs,at_+1,by omega,by rw[show 2000 - (i+1)=k2 by omega];exact a,.app D.2 b5,jn.own o2 (by simp),u.left l2 (λid h1 K=>E id K h1),λid h1 K=>?_,by omega,by simp;omega,by omega,t2,t3,t4,rfl,t10,rfl,rfl⟩
   exact(l2 id (by rw[(u.live K).1];simp) (λe=>E id e K)).2 h1
  .have b5:c.kind=2/\0<=c.n/\c.n < g.rules.length:=by rcases Ey ar with h | h | h <;> omega
   rw[U8 (by omega),U8 (by omega)] at a
   simp(disch:=omega)only[↓wr,seval,wq,t2,t3,t4,t9,t10,t11,t12,d]
   apply ah.eq<;>intro hn
   .rw[show 2000 - i=0 by omega] at a
    simp(disch:=omega)only[↓wr,seval,wq,t2,t3,t4,t9,t10,t11,t12,d]
    intro p _
    exact eX 14 p a.symm
   obtain⟨k2,ek⟩:∃ k2,2000 - i=k2+1:=⟨2000 - i - 1,by omega⟩
   rw[ek] at a
   simp only[U8 k1] at a
   have hR:g.rules[c.n.toNat]?=some (az g c.n):=by unfold az;exact getD_some (by omega)
   have a8:=Vc hR
   have cv:=hf.right _ a8
   have b7:=hf.left _ a8
   generalize az g c.n=R at hR a8 cv b7 a
   simp(disch:=omega)only[↓wr,seval,wq,t2,t3,t4,t9,t10,t11,t12,d]
   refine ah.eq (λh=>absurd h k1) (λ_=>?_)
   simp(disch:=omega)only[↓wr,seval,wq,t2,t3,t4,t9,t10,t11,t12,d,ag,encS,U9,hR,Ve,aW]
   intro b2 B
   rw[set_set]
   have b8:¬ b2=b:=by rintro rfl;rw[d] at B;simp at B
   have L:(H5.set b2 (.arr 3 [[gi R.left,encI R.right,gi R.prec]])) b2=.arr 3 [[gi R.left,encI R.right,gi R.prec]]:=by simp[View.set]
   have f:(H5.set b2 (.arr 3 [[gi R.left,encI R.right,gi R.prec]])) b=.arr 2 [[gi c.kind,gi c.n]]:=by simp[View.set,Ne.symm b8,d]
   have W:=I.fresh B (o:=.arr 3 [[gi R.left,encI R.right,gi R.prec]])
   have u:=y.fresh B (o:=.arr 3 [[gi R.left,encI R.right,gi R.prec]])
   have b9:¬ b2=r:=by rintro rfl;rw[J] at B;simp at B
   have Y:(H5.set b2 (.arr 3 [[gi R.left,encI R.right,gi R.prec]])) r=.arr 1 P:=by simp[View.set,Ne.symm b9,J]
   generalize H5.set b2 (.arr 3 [[gi R.left,encI R.right,gi R.prec]])=H6 at L f W u Y
   try simp(disch:=omega)only[↓wr,seval,wq,t2,t3,t4,t9,t10,t11,t12,L,A,encI]
   apply ah.dec<;>intro hlen
   .rw[Va (by omega)] at a
    simp(disch:=omega)only[↓wr,seval,wq,t2,t3,t4,t9,t10,t11,t12,f]
    intro p _
    exact eX 3 p a.symm
   rw[U8 (by omega)] at a
   obtain⟨m2,cC⟩:∃ m2,m2=st.length - R.right.length:=⟨_,rfl⟩
   have cN:(st.length:Int) - R.right.length=m2:=by omega
   rw[<-cC] at a
   have Z:m2<=st.length:=by omega
   have cS:jn H6 (.sl r l m2 1) (st.take m2):=(A ▸ W).take Z
   have M:F8 t (st.take m2):=D.take (by omega)
   have cV:(st.take m2).length=m2:=by simp;omega
   have bd:=M.2 _ (FQ M.1)
   have U:P.getD (l+((m2:Int) - 1).toNat) []=[gi (bM (st.take m2))]:=by
    have:=S8 (off:=l) (es:=P) (st:=st.take m2) (λj hj=>by
     rw[b0 j (by omega),U5,U5,Wo,Va (by omega)]) (by omega)
    rwa [cV] at this
   obtain⟨ca,N⟩:=z.go (s:=bM (st.take m2)) (x:=R.left) bd b7
   have cc:t.gotos[(bM (st.take m2)).toNat]?=some (t.gotos.getD (bM (st.take m2)).toNat []):=getD_some (by have:=z.len;omega)
   generalize t.gotos.getD (bM (st.take m2)).toNat []=gr at cc N
   generalize kJ t (bM (st.take m2)) R.left=to at ca N a
   simp(disch:=omega)only[↓wr,seval,wq,t2,t3,t4,t9,t10,t11,t12,L,f,A,Y,cN,U,U9,cc,N,Ve,encI,cB,HT Z]
   refine⟨by omega,by omega,?_⟩
   apply ah.eq<;>intro bl
   .rw[Va bl] at a
    simp(disch:=omega)only[↓wr,seval,wq,t2,t3,t4,t9,t10,t11,t12,f]
    intro p _
    exact eX 3 p a.symm
   rw[U8 bl] at a
   simp(disch:=omega)only[↓wr,seval,wq,t2,t3,t4,t9,t10,t11,t12,f]
   intro q hq
   have an:=cS.fresh hq (o:=.arr 1 [[gi to]])
   have aq:=u.fresh hq (o:=.arr 1 [[gi to]])
   have c0:¬ b=q:=by rintro rfl;rw[f] at hq;simp at hq
   have cf:(H6.set q (.arr 1 [[gi to]])) b=.arr 2 [[gi c.kind,gi c.n]]:=by simp[View.set,c0,f]
   have v:∀ id,owner (V.sl r l m2 1)=some id->owner ur≠some id:=λid h=>E id (by rw[A];exact h)
   have cg:owner (V.sl r l m2 1)≠some b:=by simp[owner];exact λh=>b4 h.symm
   generalize V.sl r l m2 1=u7 at an v cg ⊢
   simp(disch:=omega)only[↓wr,seval,wq,t2,t3,t4,t9,t10,t11,t12,bt]
   refine BN (xs:=[to]) an (by simp) (by unfold aD;simp;omega) (by unfold aD;simp;omega) ?_
   intro S H7 o2 l2
   have ch:=aq.left l2 (λid h1 K=>v id K h1)
   have c3:H7 b=.arr 2 [[gi c.kind,gi c.n]]:=by rw[(l2 b (by rw[cf];simp) cg).1,cf]
   have cj:∀ id,owner S=some id->owner ur≠some id:=λid h1 K=>(l2 id (by rw[(aq.live K).1];simp) (λe=>v id e K)).2 h1
   simp(disch:=omega)only[↓wr,seval,wq,t2,t3,t4,t9,t10,t11,t12,c3]
   intro q2 ck
   have o3:=o2.fresh ck (o:=.arr 1 [[gi c.n]])
   have cr:=ch.fresh ck (o:=.arr 1 [[gi c.n]])
   simp(disch:=omega)only[↓wr,seval,wq,t2,t3,t4,t9,t10,t11,t12,bt]
   refine nd cr (by simp) (by simp[aJ]) (by unfold aD;simp;omega) (by unfold aD;simp;omega) ?_
   intro da H8 o4 l4
   simp(disch:=omega)only[↓wr,seval,wq,t2,t3,t4,t9,t10,t11,t12]
   refine aI hk (by omega) ⟨S,da,st.take m2 ++ [to],rs ++ [c.n],at_,by omega,by rw[show 2000 - (i+1)=k2 by omega];exact a,.app M.2 (by omega),jn.own (o3.left l4 cj) (by simp),by simpa using o4,λid h1 K=>?_,by omega,by simp;omega,by simp;omega,t2,t3,t4,rfl,rfl,t11,rfl⟩
   exact(l4 id (by rw[(o3.live h1).1];simp) (λe=>cj id h1 e)).2 K)
structure eV where
 sym:Int
 to:Int
 deriving DecidableEq
def sY (x:eV):List V:=[gi x.sym,gi x.to]
theorem RM {H:View} {u:V} {sz b i j:Nat} {es:List (List V)} (h:aZ H u sz es) (a:owner u≠some b):gG (.ptr b i j) u:=by
 rcases h with ⟨_,k,rfl⟩ | ⟨z,rfl,_⟩
 .simp[gG]
 .simp[gG,owner] at a ⊢
  exact λe=>a e.symm
abbrev LY:=List (V × List Cell)
abbrev QK:=List (V × List Int)
def dx {α:Type} (A:List (V × α)):List (List V):=A.map λx=>[x.1]
def KQ (A:LY):List eC:=A.map λx=>(x.1,2,x.2.map cK)
def KV (A:QK):List eC:=A.map λx=>(x.1,1,bR x.2)
theorem NZ {h:aB} {u:V} {A:LY} (f:aZ h.view u 1 (dx A)) (g:∀ x∈A,aZ h.view x.1 2 (x.2.map cK)):cM h u (.aS ((A.map (·.2)).map λr=>[xZ r])):=by
 have c:∀ i (hi:i < A.length),(dx A).getD i []=[(A[i]).1]/\(((A.map (·.2)).map λr=>[xZ r]).getD i [])=[xZ (A[i]).2]:=λi hi=>by
  simp[dx,U5,hi]
 refine cM.own f (by simp[dx]) (λi hi=>?_) (λi j hi b=>?_)
 .have a:i < A.length:=by simpa [dx] using hi
  rw[(c i a).1,(c i a).2];rfl
 .have a:i < A.length:=by simpa [dx] using hi
  rw[(c i a).2] at b ⊢
  rw[(c i a).1]
  have:j=0:=by simp at b;omega
  subst this
  simp only[Wc]
  have d:=g _ (Vg a)
  generalize (A[i]'a).2=l at d
  refine cM.own d rfl (λi _=>rfl) (λi j hi b=>?_)
  simp only[Vl] at hi
  have e:(l.map cK).getD i []=cK l[i]:=by simp[U5,hi]
  rw[e] at b ⊢
  match j,b with
  | 0,_=>exact .val _
  | 1,_=>exact .val _
theorem I1 {h:aB} {u v s t:V} (h1:cM h u s) (a:cM h v t):cM h (.agg [u,v]) (.agg [s,t]):=.agg _ _ rfl λj b=>by
 match j,b with
 | 0,_=>exact h1
 | 1,_=>exact a
structure aC where
 al:Int
 dot:Int
 deriving DecidableEq
def bC (x:aC):List V:=[gi x.al,gi x.dot]
def bA (l:List aC):List (List V):=l.map bC
def fH (a b:aC):Bool:=decide (a.al < b.al) || (decide (a.al=b.al) && decide (a.dot < b.dot))
def dX:List aC->aC->List aC
 | [],x=>[x]
 | y :: l,x=>if fH y x=true then y :: dX l x else if y=x then y :: l else x :: y :: l
theorem Rr (a b:aC):∀ v∈[V.agg (bC a),.agg (bC b)],Tree v:=by
 intro v c;simp at c
 rcases c with rfl | rfl <;> exact bz _ λv c=>by simp[bC] at c;rcases c with rfl | rfl <;> exact .val _
def qy:SF:=⟨af [ab [cd 2 0,cd 3 1,bu 4 false],.region false [⟨none,[au 5 0 2,aj 6 5,au 7 0 3,aj 8 7,aV 9 .lss 6 8,aa 10 9]⟩,⟨(some (10,false)),[au 11 0 2,aj 12 11,au 13 0 3,aj 14 13,aV 15 .eql 12 14,aa 16 15]⟩,⟨(some (16,true)),[au 17 1 2,aj 18 17,au 19 1 3,aj 20 19,aV 21 .lss 18 20]⟩,⟨(some (10,false)),[c8 22 16 21]⟩,⟨none,[bP 23 10 22,aa 4 23]⟩],.ret],
 [.tmp 4],24⟩
theorem vf:aQ Tryz.prog 198 [2,3]=some qy:=by kernel_rfl
def oC:SC :=
 af [af [.region false [⟨none,[aa 7 5,aa 8 0,aP 9 8,aV 10 .lss 7 9,aa 11 10]⟩,⟨(some (11,true)),[aa 12 0,aa 13 5,aM 14 2 12 13,aU 15 2 14,aU 16 2 3,ba 17 198 [15,16]]⟩,⟨none,[c8 18 11 17]⟩],bW 18 (.exit 0)],.block 1 (ab [aa 19 5,aE 20 .add 19 1,aa 5 20])]
def qT:SF:=⟨af [ab [cd 3 1,ct 4 1],ab [aT 5 0],bX 0 oC,af [.region false [⟨none,[aa 21 5,aa 22 0,aP 23 22,aV 24 .lss 21 23,aa 25 24]⟩,⟨(some (25,true)),[aa 26 0,aa 27 5,aM 28 2 26 27,aU 29 2 28,aU 30 2 3,((some 31),.op (.old (.binOp .eql 120 (.tmp 29) (.tmp 30) 120) 4))]⟩,⟨none,[c8 32 25 31]⟩],bg 32 (af [ab [aa 33 0,aa 4 33],.ret])],ab [ct 34 2,aa 35 0,aa 36 5,((some 37),.op (.slice 2 (.tmp 35) (some (.tmp 36)) none)),fM 38 2 16 34 37,aa 6 38],ab [aa 39 0,aa 40 5,((some 41),.op (.slice 2 (.tmp 39) none (some (.tmp 40)))),aU 42 2 3,((some 43),.op (.bG 1 2 [(.val (.int .i64 0)),(.val (.int .i64 0))] [(0,(.tmp 42))])),fM 44 2 16 41 43,aa 45 6,fM 46 2 16 44 45,aa 4 46],.ret],
 [.tmp 4],47⟩
theorem vY:aQ Tryz.prog 133 [3]=some qT:=by kernel_rfl
theorem On (a b:aC):ay Tryz.prog 198 [.agg (bC a),.agg (bC b)] (gb (fH a b)):=by
 refine ay.val (Rr a b) λH=>?_
 refine aw.of mixed vf ?_
 unfold fH
 simp(disch:=omega)only[↓wr,seval,wq,qy,bC]
 apply ah.dec<;>intro h1
 .simp(disch:=omega)only[↓wr,seval,wq]
  rw[Wn h1];rfl
 simp(disch:=omega)only[↓wr,seval,wq,bC]
 apply ah.eq<;>intro c
 .simp(disch:=omega)only[↓wr,seval,wq,bC]
  rw[decide_eq_false h1,Wn c];rfl
 .simp(disch:=omega)only[↓wr,seval,wq]
  rw[decide_eq_false h1,decide_eq_false c];rfl
def dC:List aC->aC->Nat
 | [],_=>0
 | y :: l,x=>if fH y x=true then dC l x+1 else 0
theorem BH:∀ (l:List aC) (x:aC),dC l x<=l.length
 | [],_=>Vh _
 | y :: l,x=>by
  rw[dC];split
  .have:=BH l x;simp;omega
  .simp
theorem A8:∀ (l:List aC) (x:aC) (i:Nat) (y:aC),l[i]?=some y->i < dC l x->fH y x=true
 | [],_,_,_,h,_=>by simp at h
 | z :: l,x,0,y,h,hi=>by
  rw[dC] at hi;split at hi
  .simp at h;subst h;assumption
  .omega
 | z :: l,x,i+1,y,h,hi=>by
  rw[dC] at hi;split at hi
  .exact A8 l x i y (by simpa using h) (by omega)
  .omega
theorem Be:∀ (l:List aC) (x:aC) (y:aC),l[dC l x]?=some y->fH y x=false
 | [],_,_,h=>by simp at h
 | z :: l,x,y,h=>by
  rw[dC] at h;split at h
  .exact Be l x y (by simpa using h)
  .rename_i e;simp at h;subst h;simpa using e
theorem wK:∀ (l:List aC) (x:aC),dX l x=if l[dC l x]?=some x then l else l.take (dC l x) ++ [x] ++ l.drop (dC l x)
 | [],x=>by simp[dX,dC]
 | y :: l,x=>by
  rw[dX,dC]
  split
  .have:=wK l x
   simp only[VW,List.take_succ_cons,List.drop_succ_cons,VZ]
   rw[this];split <;> simp
  .simp only[Vu,U7,List.take_zero,Wm,Wp,VZ]
theorem tn (x y:aC):fK Tryz.prog 9998 #[.int .i64 x.al,.int .i64 x.dot] #[.int .i64 y.al,.int .i64 y.dot]
  [{ name:= "Rule",type:=3,offset:=0,embedded:=false,tag:= "",pkgPath:= "",byteOffset:=0 },{ name:= "Dot",type:=3,offset:=1,embedded:=false,tag:= "",pkgPath:= "",byteOffset:=8 }] ((x.al == y.al) && ((x.dot == y.dot) && true)) :=
 .int _ _ _ .i64 _ _ (by decide) Tryz.underlying3 rfl rfl (.int _ _ _ .i64 _ _ (by decide) Tryz.underlying3 rfl rfl .nil)
theorem Bi (x y:aC):((x.al == y.al) && ((x.dot == y.dot) && true))=decide (x=y):=by
 cases x;cases y;rw[V1];simp
theorem yq {sz id off k m:Nat} (hm:m<=k):gf sz (.sl id off k sz) (some (gi m)) none=some (.sl id (off+m) (k - m) sz,.none,[]):=by
 simp[gf,bound,asNat,hm]
theorem rF {sz id off k m:Nat} (hm:m<=k):gf sz (.sl id off k sz) none (some (gi m))=some (.sl id off m sz,.none,[]):=by
 simp[gf,bound,asNat,hm]
theorem Oe (l:List aC):((bA l).all λe=>e.length == 2 && e.all aJ)=true:=by
 simp[bA,List.all_map,bC,aJ]
theorem NA {H:View} {u:V} {sz:Nat} {es:List (List V)} (h:aZ H u sz es):∃ rd,cm H u=some (es,rd):=by
 rcases h with ⟨rfl,k,rfl⟩ | ⟨n,rfl,a⟩
 .exact⟨_,uh _ k⟩
 .cases es with
  | nil=>exact⟨[],by simp[cm]⟩
  | cons e es =>
   exact⟨_,by rw[show (e :: es).length=es.length+1 from rfl,BU _ n 0 es.length sz sz _ a (by simp),Wm,Vn (by simp)]⟩
theorem pz {sz bytes:Nat} {u:V} {es:List (List V)} {H:View} {K:V->View->Prop} {w:cP (H,K)} (a:aZ H u sz es) (h:K u H):k6 sz bytes u [] H K w:=by
 unfold k6
 rcases a with ⟨_,k,rfl⟩ | ⟨n,rfl,_⟩ <;> simpa using h
theorem Left.behind {H H':View} {q:Nat} {o:bT} {u r:V} (d:H q=.dead) (h:Left (H.set q o) H' u r):Left H H' u r:=λa c b=>by
 have e:¬ a=q:=by rintro rfl;exact c d
 have:=h a (by simp[View.set,e];exact c) b
 simpa [View.set,e] using this
theorem Ay (u:V) (l:List aC) (hl:l.length<=100000) (x:aC) (H:View) (v:aZ H u 2 (bA l)):aw Tryz.prog 133 [u,.agg (bC x)] H λr H'=>aZ H' r 2 (bA (dX l x))/\Left H H' u r:=by
 refine aw.of mixed vY ?_
 have hlen:dH u=some l.length:=by rw[v.len];simp[bA]
 have hle:=BH l x
 simp(disch:=omega)only[↓wr,seval,wq,qT,bC]
 refine bc.up (dC l x) (λi T H'=>H'=H/\i<=dC l x/\T 0=u/\T 3=.aF (bC x) 0/\T 5=gi i) ⟨rfl,by omega,rfl,rfl,rfl⟩ ?_
 rintro i k T H' hk ⟨Z,hi,t0,t3,t5⟩
 subst Z
 simp(disch:=omega)only[↓wr,seval,wq,oC,t0,t3,t5,hlen]
 have stop:i=dC l x->True:=λ_=>trivial
 apply ah.dec<;>intro K
 .have w:l[i]?=some (l[i]'(by omega)):=U6 (by omega)
  generalize l[i]'(by omega)=y at w
  obtain⟨id,hu,b⟩:=v.sl (by simp[bA];omega)
  have n:(bA l).length=l.length:=by simp[bA]
  have L:(bA l).getD i []=bC y:=by simp[bA,U5,w]
  have A:=On y x
  simp only[bC] at A L
  simp(disch:=omega)only[↓wr,seval,wq,t0,t3,t5,hu,b,L,bC]
  refine⟨by simp[bA];omega,by simp[bA];omega,?_⟩
  refine av.pure A ?_
  simp(disch:=omega)only[↓wr,seval,wq,t0,t3,t5]
  apply ah.split<;>intro e
  .have B:i < dC l x:=by
    rcases Vw i (dC l x) with h | h
    .exact h
    .have:=Be l x y (by rw[show dC l x=i by omega];exact w)
     rw[this] at e;exact absurd e (by simp)
   simp(disch:=omega)only[↓wr,seval,wq,t0,t3,t5]
   exact aI hk B ⟨rfl,B,t0,t3,rfl⟩
  have s:i=dC l x:=by
   rcases Vw i (dC l x) with h | h
   .rw[A8 l x i y w h] at e;exact absurd e (by simp)
   .omega
  simp(disch:=omega)only[↓wr,seval,wq,t0,t3,t5,hlen]
  refine ah.dec (λ_=>?_) (λh=>absurd K h)
  simp(disch:=omega)only[↓wr,seval,wq,t0,t3,t5,hu,b,L,bC]
  refine⟨by simp[bA];omega,by simp[bA];omega,?_⟩
  refine lM (xs:=#[.int .i64 y.al,.int .i64 y.dot]) (ys:=#[.int .i64 x.al,.int .i64 x.dot]) Tryz.underlying120 (by kernel_rfl) (by kernel_rfl) ?_ ?_ (tn y x) (.inl ⟨rfl,rfl⟩) ?_
  .rfl
  .rfl
  rw[Bi]
  simp(disch:=omega)only[↓wr,seval,wq,t0,t3,t5]
  apply ah.dec<;>intro M
  .subst M
   simp(disch:=omega)only[↓wr,seval,wq,t0]
   rw[wK,Va (by rw[<-s];exact w)]
   exact⟨v,λid b v=>⟨rfl,v⟩⟩
  rw[n] at hu
  have N:cm H' (.sl id i (l.length - i) 2)=some (bA (l.drop i),[id]):=by
   obtain⟨q,d⟩:∃ q,l.length - i=q+1:=⟨l.length - i - 1,by omega⟩
   rw[d,BU H' id i q 2 2 (bA l) b (by rw[n];omega)]
   rw[show (bA l).drop i=bA (l.drop i) from List.map_drop.symm,Vn (by simp[bA];omega)]
  simp(disch:=omega)only[↓wr,seval,wq,t0,t3,t5,hu,yq (sz:=2) (id:=id) (off:=0) (k:=l.length) (m:=i) (by omega),N]
  refine kx aZ.nil (Oe _) (by unfold aD bA;simp;omega) (by unfold aD bA;simp;omega) ?_
  intro rest H1 O lr
  simp(disch:=omega)only[↓wr,seval,wq,t0,t3,t5,hu,rF (sz:=2) (id:=id) (off:=0) (k:=l.length) (m:=i) (by omega),bC]
  intro q d
  have C:owner rest≠some id:=(lr id (by rw[b];simp) (by simp[owner])).2
  have f:H1 id=.arr 2 (bA l):=by rw[(lr id (by rw[b];simp) (by simp[owner])).1,b]
  have D:¬ id=q:=by rintro rfl;rw[f] at d;simp at d
  simp(disch:=omega)only[↓wr,seval,wq,bt]
  rw[r5 _ _ _ _ _ _ _ _ _ _ (by rfl)]
  simp(disch:=omega)only[↓wr,seval,wq,D,f,n]
  refine⟨⟨by omega,by unfold aD;omega,by unfold aD;omega⟩,λj c=>?_⟩
  try rw[Wm]
  have E:¬ j=q:=by rintro rfl;simp at c
  rw[U8 E] at c
  have F:¬ j=id:=by rintro rfl;rw[f] at c;simp at c
  have g:=((O.fresh (o:=.arr 2 [[gi x.al,gi x.dot]]) d).other (o:=.dead) C).fresh (m:=j) (o:=.arr 2 (List.take i (bA l) ++ [[gi x.al,gi x.dot]])) (by simp[View.set,E,F,c])
  have G:aZ (((H1.set q (.arr 2 [[gi x.al,gi x.dot]])).set id .dead).set j (.arr 2 (List.take i (bA l) ++ [[gi x.al,gi x.dot]]))) (.sl j 0 (i+1) 2) 2 (List.take i (bA l) ++ [[gi x.al,gi x.dot]]):=.inr ⟨j,by simp[n];omega,by simp[View.set]⟩
  have I:∀ a,H' a≠.dead->a≠id->(((H1.set q (.arr 2 [[gi x.al,gi x.dot]])).set id .dead).set j (.arr 2 (List.take i (bA l) ++ [[gi x.al,gi x.dot]]))) a=H' a/\a≠j:=λa z P=>by
   have h1:=(lr a z (by simp[owner])).1
   have aq:¬ a=q:=by rintro rfl;rw[d] at h1;exact z h1.symm
   have W:¬ a=j:=by rintro rfl;rw[c] at h1;exact z h1.symm
   exact⟨by simp[View.set,aq,W,P,h1],W⟩
  generalize ((H1.set q (.arr 2 [[gi x.al,gi x.dot]])).set id .dead).set j (.arr 2 (List.take i (bA l) ++ [[gi x.al,gi x.dot]]))=H3 at g G I ⊢
  rw[Wp] at g
  obtain⟨rd,he⟩:=NA g
  simp(disch:=omega)only[↓wr,seval,wq,he]
  refine kx G (Oe _) (by unfold aD bA;simp;omega) (by unfold aD bA;simp;omega) ?_
  intro r X t J
  simp(disch:=omega)only[↓wr,seval,wq]
  refine⟨?_,λa z Q=>?_⟩
  .rw[wK,U8 (by rw[<-s,w];simpa using M),<-s]
   simpa [bA,bC,List.map_take,List.map_drop] using t
  .obtain⟨Y,k2⟩:=I a z (by rintro rfl;exact Q (by rw[hu];rfl))
   have:=J a (by rw[Y];exact z) (by simp[owner];exact λh=>k2 h.symm)
   exact⟨by rw[this.1,Y],this.2⟩
 .simp(disch:=omega)only[↓wr,seval,wq,t0,t3,t5,hlen]
  refine ah.dec (λh=>absurd h K) (λ_=>?_)
  have R:i=l.length:=by omega
  subst R
  have p:bA (dX l x)=bA l ++ [[gi x.al,gi x.dot]]:=by
   rw[wK,show dC l x=l.length by omega,Vx (Vh _),U8 (by simp),WJ,List.drop_length]
   simp[bA,bC]
  rcases v with ⟨e,k0,hu⟩ | ⟨id,hu,b⟩
  .have S:l=[]:=by simpa [bA] using e
   subst S
   simp(disch:=omega)only[↓wr,seval,wq,t0,t3,t5,hu,show ∀ k,gf 2 (.emp k) (some (gi 0)) none=some (.emp k,.none,[]) from λk=>rfl,show ∀ k,gf 2 (.emp k) none (some (gi 0))=some (.emp k,.none,[]) from λk=>rfl]
   refine pz aZ.nil ?_
   simp(disch:=omega)only[↓wr,seval,wq,t0,t3,t5,hu,show ∀ k,gf 2 (.emp k) none (some (gi 0))=some (.emp k,.none,[]) from λk=>rfl,bC]
   intro q d
   simp(disch:=omega)only[↓wr,seval,wq,bt]
   refine kx (sz:=2) (u:=.emp k0) aZ.nil (by simp[aJ]) (by unfold aD;simp) (by unfold aD;simp) ?_
   intro r X t J
   simp(disch:=omega)only[↓wr,seval,wq]
   refine pz t ?_
   simp(disch:=omega)only[↓wr,seval,wq]
   exact⟨by rw[p];exact t,hu ▸ Left.behind d J⟩
  .rw[show (bA l).length=l.length by simp[bA]] at hu
   simp(disch:=omega)only[↓wr,seval,wq,t0,t3,t5,hu,yq (sz:=2) (id:=id) (off:=0) (k:=l.length) (m:=l.length) (by omega),rF (sz:=2) (id:=id) (off:=0) (k:=l.length) (m:=l.length) (by omega)]
   rw[Nat.sub_self,show cm H' (.sl id l.length 0 2)=some ([],[]) from rfl]
   simp(disch:=omega)only[↓wr,seval,wq]
   refine pz aZ.nil ?_
   simp(disch:=omega)only[↓wr,seval,wq,t0,t3,t5,hu,rF (sz:=2) (id:=id) (off:=0) (k:=l.length) (m:=l.length) (by omega),bC]
   intro q d
   simp(disch:=omega)only[↓wr,seval,wq,bt]
   have U:aZ H' (.sl id 0 l.length 2) 2 (bA l):=.inr ⟨id,by simp[bA],b⟩
   refine kx (sz:=2) (U.fresh d) (by simp[aJ]) (by unfold aD bA;simp;omega) (by unfold aD bA;simp;omega) ?_
   intro r X t J
   simp(disch:=omega)only[↓wr,seval,wq]
   refine pz t ?_
   simp(disch:=omega)only[↓wr,seval,wq]
   exact⟨by rw[p];exact t,hu ▸ Left.behind d J⟩
def aG (g:ae) (r:Int):List Int:=if r = -1 then [-1 - g.start] else (az g r).right
def bo (g:ae) (x:aC):Int × Bool:=if x.dot=(aG g x.al).length then (0,false) else ((aG g x.al).getD x.dot.toNat 0,true)
def oQ:SF:=⟨af [ab [cd 2 0,ct 4 1],af [ab [aa 5 1,aE 6 .eql 5 (-1)],bg 6 (af [ab [au 7 3 2,aj 8 7,((some 9),.op (.arith .sub (.val (.val (.int .i64 (-1)))) (.tmp 8))),((some 10),.op (.bG 1 1 [(.val (.int .i64 0))] [(0,(.tmp 9))])),aa 4 10],.ret])],ab [au 11 2 2,aj 12 11,aa 13 1,aM 14 3 12 13,au 15 1 14,aj 16 15,aa 4 16],.ret],
 [.tmp 4],17⟩
theorem uf:aQ Tryz.prog 199 [2]=some oQ:=by kernel_rfl
def pP:SF:=⟨af [ab [cd 2 0,cd 3 1,aT 4 0,bu 5 false],ab [aU 7 4 2,au 8 0 3,aj 9 8,ba 10 199 [7,9],aa 6 10],af [ab [au 11 1 3,aj 12 11,aa 13 6,aP 14 13,aV 15 .eql 12 14],bg 15 (af [ab [aT 4 0,bu 5 false],.ret])],ab [aa 16 6,au 17 1 3,aj 18 17,aM 19 1 16 18,aj 20 19,aa 4 20,bu 5 true],.ret],
 [.tmp 4,.tmp 5],21⟩
theorem vl:aQ Tryz.prog 134 [2,3]=some pP:=by kernel_rfl
theorem B4 (g:ae) (d : -100<=g.start/\g.start<=100) (r:Int) (hr : -1<=r/\r < (g.rules.length:Int)):ay Tryz.prog 199 [.agg (ag g),gi r] (encI (aG g r)):=by
 refine ay.of (by
  intro v a;simp at a
  rcases a with rfl | rfl
  .exact bz _ (bE g)
  .exact .val _) ?_
 refine aw.of mixed uf ?_
 unfold aG
 simp(disch:=omega)only[↓wr,seval,wq,oQ,ag,encS]
 apply ah.eq<;>intro h1
 .simp(disch:=omega)only[↓wr,seval,wq,ag,encS]
  intro n
  rw[Va h1]
  rintro c a
  refine cM.fr (kn (l:=[-1 - g.start]) (.inr ⟨n,rfl,?_⟩))
  rw[a];simp[View.set]
 .have b:g.rules[r.toNat]?=some (az g r):=by unfold az;exact getD_some (by omega)
  rw[U8 h1]
  generalize az g r=R at b
  simp(disch:=omega)only[↓wr,seval,wq,ag,encS,U9,b,Ve,aW]
  intro c _
  exact .tree _ (eM R.right)
theorem MV (g:ae) (c : -100<=g.start/\g.start<=100) (x:aC) (d : -1<=x.al/\x.al < (g.rules.length:Int)) (e:0<=x.dot/\x.dot<=(aG g x.al).length) (f:(aG g x.al).length<=1000) :
  ay Tryz.prog 134 [.agg (ag g),.agg (bC x)] (.bm [gi (bo g x).1,gb (bo g x).2]):=by
 have h1:=B4 g c x.al d
 refine ay.tree (by
  intro v a;simp at a
  rcases a with rfl | rfl
  .exact bz _ (bE g)
  .exact bz _ λv a=>by simp[bC] at a;rcases a with rfl | rfl <;> exact .val _) (.bm _ λi hi=>by
   match i,hi with
   | 0,_=>exact .val _
   | 1,_=>exact .val _) λH=>?_
 refine aw.of mixed vl ?_
 simp only[ag,encS,encI] at h1
 unfold bo
 simp(disch:=omega)only[↓wr,seval,wq,pP,ag,encS,bC]
 refine av.pure h1 ?_
 generalize aG g x.al=R at e f ⊢
 simp(disch:=omega)only[↓wr,seval,wq,bC]
 apply ah.eq<;>intro b
 .simp(disch:=omega)only[↓wr,seval,wq]
  rw[Va b]
 .have h:R[x.dot.toNat]?=some (R.getD x.dot.toNat 0):=getD_some (by omega)
  simp(disch:=omega)only[↓wr,seval,wq,bC,U9,h,Ve]
  rw[U8 b]
end Gv
