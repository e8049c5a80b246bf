/-
  Part 11 of the proof: what the machine does and what the functions answer.
  Conditions: those that each lemma names.
-/
import Derived.Test.YtiophifnkakjgaaGreatSGzB8J
set_option linter.unusedSimpArgs false
set_option linter.unusedVariables false
set_option maxRecDepth 100000
set_option maxHeartbeats 20000000
namespace Gv
open Go Go.Proofs
def gm:SC :=
 ae [ab [aR 14 .lss 13 12],bX 14 (.exit 0),.block 1 (ae [ab [aa 15 13,aa 5 15],ab [aa 16 0,aa 17 5,aO 18 3 16 17,aS 19 3 18,aa 20 1,aa 21 5,aO 22 3 20 21,aS 23 3 22,((some 24),.op (.old (.binOp .neq 130 (.tmp 19) (.tmp 23) 130) 4))],ba 24 (ae [ab [bq 4 false],.ret])]),ab [aG 25 .add 13 1,aa 13 25]]
def gJ:SF:=⟨ae [ab [bq 4 false],ae [ab [aa 6 0,aM 7 6,aa 8 1,aM 9 8,aR 10 .neq 7 9],ba 10 (ae [ab [bq 4 false],.ret])],ae [ab [aa 11 0,aM 12 11,aN 13 0],bY 0 gm],ab [bq 4 true],.ret],
 [.tmp 4],26⟩
theorem kh:aH Tryz.prog 203 []=some gJ:=by kernel_rfl
def hU:SC :=
 ae [ab [aR 14 .lss 13 12],bX 14 (.exit 0),.block 1 (ae [ab [aa 15 13,aa 5 15],ab [aa 16 0,aa 17 5,aO 18 1 16 17,ak 19 18,aa 20 1,aa 21 5,aO 22 1 20 21,ak 23 22,((some 24),.op (.xg .neq (.tmp 19) (.tmp 23)))],ba 24 (ae [ab [bq 4 false],.ret])]),ab [aG 25 .add 13 1,aa 13 25]]
def iy:SF:=⟨ae [ab [bq 4 false],ae [ab [aa 6 0,aM 7 6,aa 8 1,aM 9 8,aR 10 .neq 7 9],ba 10 (ae [ab [bq 4 false],.ret])],ae [ab [aa 11 0,aM 12 11,aN 13 0],bY 0 hU],ab [bq 4 true],.ret],
 [.tmp 4],26⟩
theorem lQ:aH Tryz.prog 204 []=some iy:=by kernel_rfl
def jE:SC :=
 ae [ab [aR 14 .lss 13 12],bX 14 (.exit 0),.block 1 (ae [ab [aa 15 13,aa 5 15],ab [aa 16 0,aa 17 5,aO 18 1 16 17,ak 19 18,aa 20 1,aa 21 5,aO 22 1 20 21,ak 23 22,aR 24 .neq 19 23],ba 24 (ae [ab [bq 4 false],.ret])]),ab [aG 25 .add 13 1,aa 13 25]]
def kj:SF:=⟨ae [ab [bq 4 false],ae [ab [aa 6 0,aM 7 6,aa 8 1,aM 9 8,aR 10 .neq 7 9],ba 10 (ae [ab [bq 4 false],.ret])],ae [ab [aa 11 0,aM 12 11,aN 13 0],bY 0 jE],ab [bq 4 true],.ret],
 [.tmp 4],26⟩
theorem pz:aH Tryz.prog 254 []=some kj:=by kernel_rfl
def zO:SF:=⟨ae [ab [cw 2 0,cw 3 1,bq 4 false],.region false [⟨none,[al 5 0 2,ak 6 5,al 7 0 3,ak 8 7,aR 9 .eql 6 8,aa 10 9]⟩,⟨(some (10,true)),[al 11 2 2,ak 12 11,al 13 2 3,ak 14 13,aR 15 .eql 12 14]⟩,⟨none,[eu 16 10 15,aa 17 16]⟩,⟨(some (17,true)),[al 18 1 2,ak 19 18,al 20 1 3,ak 21 20,aX 22 254 [19,21]]⟩,⟨none,[eu 23 17 22,aa 4 23]⟩],.ret],
 [.tmp 4],24⟩
theorem Dq:aH Tryz.prog 206 [2,3]=some zO:=by kernel_rfl
def dr:SC :=
 ae [ab [aR 18 .lss 17 16],bX 18 (.exit 0),.block 1 (ae [ab [aa 19 17,aO 20 3 15 17,aS 21 3 20,((some 8),.op (.alloc [(.val (.int .i64 0)),(.emp 1),(.val (.int .i64 0))])),aa 7 19,cg 3 8 21],ab [aa 22 1,aa 23 7,aO 24 3 22 23,aS 25 3 24,((some 9),.op (.alloc [(.val (.int .i64 0)),(.emp 1),(.val (.int .i64 0))])),cg 3 9 25],ab [aa 26 2,aS 27 3 8,aS 28 3 9,((some 29),.call (.tmp 26) [(.tmp 27),(.tmp 28)]),c7 30 29],ba 30 (ae [ab [bq 6 false],.ret])]),ab [aG 31 .add 17 1,aa 17 31]]
def dA:SF:=⟨ae [ab [bq 6 false],ae [ab [aa 10 0,aM 11 10,aa 12 1,aM 13 12,aR 14 .neq 11 13],ba 14 (ae [ab [bq 6 false],.ret])],ae [ab [aa 15 0,aM 16 15,aN 17 0],bY 0 dr],ab [bq 6 true],.ret],
 [.tmp 6],32⟩
theorem fB:aH Tryz.prog 205 []=some dA:=by kernel_rfl
def Bh:SF:=⟨ae [ab [cw 2 0,cw 3 1,bq 4 false],.region false [⟨none,[al 5 0 2,ak 6 5,al 7 0 3,ak 8 7,aX 9 203 [6,8],aa 10 9]⟩,⟨(some (10,true)),[al 11 1 2,ak 12 11,al 13 1 3,ak 14 13,aX 15 204 [12,14]]⟩,⟨none,[eu 16 10 15,aa 17 16]⟩,⟨(some (17,true)),[al 18 2 2,ak 19 18,al 20 2 3,ak 21 20,rf 22 205 [(.tmp 19),(.tmp 21),(.val (.fn 206 [] []))]]⟩,⟨none,[eu 23 17 22,aa 24 23]⟩,⟨(some (24,true)),[al 25 3 2,ak 26 25,al 27 3 3,ak 28 27,aR 29 .eql 26 28]⟩,⟨none,[eu 30 24 29,aa 4 30]⟩],.ret],
 [.tmp 4],31⟩
theorem E3:aH Tryz.prog 143 [2,3]=some Bh:=by kernel_rfl
theorem M5 {α:Type} {f g:α->List V} {a b:List α} (d:∀ x,∀ v∈f x,Tree v) (e:∀ x,∀ v∈g x,Tree v):∀ v∈[V.aQ (a.map f),V.aQ (b.map g)],Tree v:=by
 intro v c;simp at c
 rcases c with rfl | rfl
 .exact eM _ _ λx _=>d x
 .exact eM _ _ λx _=>e x
theorem OH (a b:List Term) (l:aL a) (H:View):av Tryz.prog 203 [.aQ (a.map cP),.aQ (b.map cP)] H λr _=>r=gb (decide (a=b)):=by
 refine av.of mixed kh ?_
 unfold aL at l
 simp(disch:=omega)only[↓wr,seval,wq,gJ]
 apply ai.ne<;>intro h
 .simp(disch:=omega)only[↓wr,seval,wq]
  rw[decide_eq_false (sB (by omega))]
 .simp(disch:=omega)only[↓wr,seval,wq]
  refine aV.up a.length (λi T _=>a.take i=b.take i/\T 0=.aQ (a.map cP)/\T 1=.aQ (b.map cP)/\T 12=gi a.length/\T 13=gi i) ⟨by simp,rfl,rfl,rfl,rfl⟩ ?_
  rintro i k T H hk ⟨hi,c,h1,d,f⟩
  simp(disch:=omega)only[↓wr,seval,wq,gm,c,h1,d,f]
  apply ai.dec<;>intro m
  .have g:a[i]?=some (a[i]'(by omega)):=Uv (by omega)
   have j:b[i]?=some (b[i]'(by omega)):=Uv (by omega)
   generalize a[i]'(by omega)=x at g
   generalize b[i]'(by omega)=y at j
   simp(disch:=omega)only[↓wr,seval,wq,c,h1,d,f,Uy,g,j,cP]
   refine jc (xs:=#[.string x.name,.int .i64 x.level,.int .i64 x.assoc]) (ys:=#[.string y.name,.int .i64 y.level,.int .i64 y.assoc]) Tryz.underlying130 (by kernel_rfl) (by kernel_rfl) ?_ ?_ (zR x y) (.inr ⟨rfl,rfl⟩) ?_
   .rfl
   .rfl
   rw[JZ]
   simp(disch:=omega)only[↓wr,seval,wq,c,h1,d,f]
   apply ai.split<;>intro e
   .simp(disch:=omega)only[↓wr,seval,wq,c,h1,d,f]
    exact aD hk (by omega) ⟨pH g j hi (by simpa using e),c,h1,d,rfl⟩
   .simp(disch:=omega)only[↓wr,seval,wq,c,h1,d,f]
    rw[decide_eq_false (vP g j (by simpa using e))]
  .simp(disch:=omega)only[↓wr,seval,wq,c,h1,d,f]
   rw[Wb (sF (by omega) (by omega) hi)]
theorem Mq (a b:List ByteArray) (l:aL a) (H:View):av Tryz.prog 204 [encS a,encS b] H λr _=>r=gb (decide (a=b)):=by
 refine av.of mixed lQ ?_
 unfold aL at l
 simp(disch:=omega)only[↓wr,seval,wq,iy,encS]
 apply ai.ne<;>intro h
 .simp(disch:=omega)only[↓wr,seval,wq]
  rw[decide_eq_false (sB (by omega))]
 .simp(disch:=omega)only[↓wr,seval,wq]
  refine aV.up a.length (λi T _=>a.take i=b.take i/\T 0=encS a/\T 1=encS b/\T 12=gi a.length/\T 13=gi i) ⟨by simp,rfl,rfl,rfl,rfl⟩ ?_
  rintro i k T H hk ⟨hi,c,h1,d,f⟩
  simp(disch:=omega)only[↓wr,seval,wq,hU,c,h1,d,f,encS]
  apply ai.dec<;>intro m
  .have g:a[i]?=some (a[i]'(by omega)):=Uv (by omega)
   have j:b[i]?=some (b[i]'(by omega)):=Uv (by omega)
   generalize a[i]'(by omega)=x at g
   generalize b[i]'(by omega)=y at j
   simp(disch:=omega)only[↓wr,seval,wq,c,h1,d,f,encS,Uy,g,j,Eg]
   apply ai.split<;>intro e
   .simp(disch:=omega)only[↓wr,seval,wq,c,h1,d,f]
    exact aD hk (by omega) ⟨pH g j hi (by simpa using e),c,h1,d,rfl⟩
   .simp(disch:=omega)only[↓wr,seval,wq,c,h1,d,f]
    rw[decide_eq_false (vP g j (by simpa using e))]
  .simp(disch:=omega)only[↓wr,seval,wq,c,h1,d,f]
   rw[Wb (sF (by omega) (by omega) hi)]
theorem LV (a b:List Int) (l:aL a) (H:View):av Tryz.prog 254 [encI a,encI b] H λr _=>r=gb (decide (a=b)):=by
 refine av.of mixed pz ?_
 unfold aL at l
 simp(disch:=omega)only[↓wr,seval,wq,kj,encI]
 apply ai.ne<;>intro h
 .simp(disch:=omega)only[↓wr,seval,wq]
  rw[decide_eq_false (sB (by omega))]
 .simp(disch:=omega)only[↓wr,seval,wq]
  refine aV.up a.length (λi T _=>a.take i=b.take i/\T 0=encI a/\T 1=encI b/\T 12=gi a.length/\T 13=gi i) ⟨by simp,rfl,rfl,rfl,rfl⟩ ?_
  rintro i k T H hk ⟨hi,c,h1,d,f⟩
  simp(disch:=omega)only[↓wr,seval,wq,jE,c,h1,d,f,encI]
  apply ai.dec<;>intro m
  .have g:a[i]?=some (a[i]'(by omega)):=Uv (by omega)
   have j:b[i]?=some (b[i]'(by omega)):=Uv (by omega)
   generalize a[i]'(by omega)=x at g
   generalize b[i]'(by omega)=y at j
   simp(disch:=omega)only[↓wr,seval,wq,c,h1,d,f,encI,Uy,g,j]
   apply ai.ne<;>intro e
   .simp(disch:=omega)only[↓wr,seval,wq,c,h1,d,f]
    rw[decide_eq_false (vP g j e)]
   .simp(disch:=omega)only[↓wr,seval,wq,c,h1,d,f]
    exact aD hk (by omega) ⟨pH g j hi e,c,h1,d,rfl⟩
  .simp(disch:=omega)only[↓wr,seval,wq,c,h1,d,f]
   rw[Wb (sF (by omega) (by omega) hi)]
theorem Nh (a b:List Term) (c:aL a):az Tryz.prog 203 [.aQ (a.map cP),.aQ (b.map cP)] (gb (decide (a=b))):=az.val (M5 sU sU) (OH a b c)
theorem N3 (a b:List ByteArray) (d:aL a):az Tryz.prog 204 [encS a,encS b] (gb (decide (a=b))):=az.val (by
 intro v c;simp at c
 rcases c with rfl | rfl <;> exact xI _) (Mq a b d)
theorem Mg (a b:List Int) (d:aL a):az Tryz.prog 254 [encI a,encI b] (gb (decide (a=b))):=az.val (by
 intro v c;simp at c
 rcases c with rfl | rfl <;> exact bQ _) (LV a b d)
theorem O7 (x y:bb) (b:aL x.right):az Tryz.prog 206 [.agg (aI x),.agg (aI y)] (gb (decide (x=y))):=by
 refine az.val (by
  intro v a;simp at a
  rcases a with rfl | rfl <;> exact bZ _ (fJ _)) λH=>?_
 rw[O6]
 refine av.of mixed Dq ?_
 simp(disch:=omega)only[↓wr,seval,wq,zO,aI,encI]
 repeat' (first | ((first|apply ai.dec|apply ai.eq|apply ai.ne|apply ai.split)<;>intro)|(refine aw.pure (Mg x.right y.right b) ?_)|(simp(disch:=omega)only[↓wr,seval,wq,aI]))
 all_goals simp[*]
theorem GB (a b:List bb) (s:aL a) (hr:∀ r∈a,aL r.right) (H:View):av Tryz.prog 205 [.aQ (a.map aI),.aQ (b.map aI),.fn 206 [] []] H λr _=>r=gb (decide (a=b)):=by
 refine av.of mixed fB ?_
 unfold aL at s
 simp(disch:=omega)only[↓wr,seval,wq,dA]
 apply ai.ne<;>intro h
 .simp(disch:=omega)only[↓wr,seval,wq]
  rw[decide_eq_false (sB (by omega))]
 .simp(disch:=omega)only[↓wr,seval,wq]
  refine aV.up a.length (λi T _=>a.take i=b.take i/\T 15=.aQ (a.map aI)/\T 1=.aQ (b.map aI)/\T 2=.fn 206 [] []/\T 16=gi a.length/\T 17=gi i) ⟨by simp,rfl,rfl,rfl,rfl,rfl⟩ ?_
  rintro i k T H hk ⟨hi,c,h1,d,f,g⟩
  simp(disch:=omega)only[↓wr,seval,wq,dr,c,h1,d,f,g]
  apply ai.dec<;>intro t
  .have j:a[i]?=some (a[i]'(by omega)):=Uv (by omega)
   have l:b[i]?=some (b[i]'(by omega)):=Uv (by omega)
   have hm:a[i]'(by omega)∈a:=UC _
   generalize a[i]'(by omega)=x at j hm
   generalize b[i]'(by omega)=y at l
   have p:=hr x hm
   simp(disch:=omega)only[↓wr,seval,wq,c,h1,d,f,g,Uy,j,l,aI,encI]
   intro n u
   try simp(disch:=omega)only[↓wr,seval,wq,c,h1,d,f,g,Uy,j,l,aI,encI]
   intro m q
   have o:=(bU q bR).1
   try simp(disch:=omega)only[↓wr,seval,wq,c,h1,d,f,g,Uy,j,l,aI,encI,o,o.symm]
   refine aw.pure (O7 x y p) ?_
   simp(disch:=omega)only[↓wr,seval,wq,c,h1,d,f,g]
   apply ai.split<;>intro e
   .simp(disch:=omega)only[↓wr,seval,wq,c,h1,d,f,g]
    exact aD hk (by omega) ⟨pH j l hi (by simpa using e),c,h1,d,f,rfl⟩
   .simp(disch:=omega)only[↓wr,seval,wq,c,h1,d,f,g]
    rw[decide_eq_false (vP j l (by simpa using e))]
  .simp(disch:=omega)only[↓wr,seval,wq,c,h1,d,f,g]
   rw[Wb (sF (by omega) (by omega) hi)]
theorem GL (a b:List bb) (d:aL a) (hr:∀ r∈a,aL r.right):az Tryz.prog 205 [.aQ (a.map aI),.aQ (b.map aI),.fn 206 [] []] (gb (decide (a=b))):=az.val (by
 intro v c;simp at c
 rcases c with rfl | rfl | rfl
 .exact eM _ _ λx _=>fJ x
 .exact eM _ _ λx _=>fJ x
 .exact CO (by simp) (by simp)) (GB a b d hr)
theorem O8 (g k:ag) (a:g.Ok):az Tryz.prog 143 [.agg (af g),.agg (af k)] (gb (decide (g=k))):=by
 refine az.val (Ei g k) λH=>?_
 rw[Gs]
 refine av.of mixed E3 ?_
 simp(disch:=omega)only[↓wr,seval,wq,Bh,af,encS]
 repeat' (first | ((first|apply ai.dec|apply ai.eq|apply ai.ne|apply ai.split)<;>intro)|(refine aw.pure (Nh g.au k.au a.au) ?_)|(refine aw.pure (N3 g.aj k.aj a.aj) ?_)|(refine aw.pure (GL g.rules k.rules a.rules (λr hr=>(a.ax r hr).2.2.1)) ?_)|(simp(disch:=omega)only[↓wr,seval,wq,af,encS]))
 all_goals simp_all [Rt]
def D1:SF:=⟨ae [ab [cw 1 0,bq 2 false],ab [aS 7 4 1,aX 8 92 [7],aa 6 8,du 9 0 6,du 10 1 6,du 11 2 6,((some 3),.op (.alloc [(.emp 1),(.emp 1),(.emp 1),(.val (.int .i64 0))])),cg 4 3 9,aa 4 10,aa 5 11],.region false [⟨none,[aa 12 5,aG 13 .eql 12 0,aa 14 13]⟩,⟨(some (14,true)),[aS 15 4 1,aS 16 4 3,aX 17 143 [15,16]]⟩,⟨none,[eu 18 14 17,aa 2 18]⟩],.ret],
 [.tmp 2],19⟩
theorem FJ:aH Tryz.prog 82 [1]=some D1:=by kernel_rfl
def sq:SF:=⟨ae [ab [cw 1 0,bq 2 false],ab [aS 7 4 1,aX 8 47 [7],aa 6 8,du 9 0 6,du 10 1 6,du 11 2 6,((some 3),.op (.alloc [(.emp 1),(.emp 1),(.emp 1),(.val (.int .i64 0))])),cg 4 3 9,aa 4 10,aa 5 11],.region false [⟨none,[aa 12 5,aG 13 .eql 12 0,aa 14 13]⟩,⟨(some (14,true)),[aS 15 4 1,aS 16 4 3,aX 17 31 [15,16]]⟩,⟨none,[eu 18 14 17,aa 2 18]⟩],.ret],
 [.tmp 2],19⟩
theorem xA:aH Tryz.prog 15 [1]=some sq:=by kernel_rfl
theorem Sd (g:ag) (a:g.Ok) (b:g.Small):az Tryz.prog 82 [.agg (af g)] (gb (isRed g)):=by
 refine az.val (dO g) λH=>?_
 refine av.of mixed FJ ?_
 simp(disch:=omega)only[↓wr,seval,wq,D1,af,encS]
 refine aw.pure (Lk g a b).pure ?_
 unfold isRed
 generalize gP g=x
 obtain⟨k,il,e⟩:=x
 simp(disch:=omega)only[↓wr,seval,wq,vY,af,encS]
 intro n c
 apply ai.eq<;>intro h
 .simp(disch:=omega)only[↓wr,seval,wq,vY,af,encS]
  refine aw.pure (O8 g k a) ?_
  simp(disch:=omega)only[↓wr,seval,wq]
  simp[h]
 .simp(disch:=omega)only[↓wr,seval,wq]
  simp[h]
theorem Sl (g:ag) (a:g.Ok):az Tryz.prog 15 [.agg (af g)] (gb (isRed g)):=by
 refine az.val (dO g) λH=>?_
 refine av.of mixed xA ?_
 simp(disch:=omega)only[↓wr,seval,wq,sq,af,encS]
 refine aw.pure (Il g a).pure ?_
 unfold isRed
 generalize gP g=x
 obtain⟨k,il,e⟩:=x
 simp(disch:=omega)only[↓wr,seval,wq,vY,af,encS]
 intro n b
 apply ai.eq<;>intro h
 .simp(disch:=omega)only[↓wr,seval,wq,vY,af,encS]
  refine aw.pure (D7 g k a) ?_
  simp(disch:=omega)only[↓wr,seval,wq]
  simp[h]
 .simp(disch:=omega)only[↓wr,seval,wq]
  simp[h]
def SN:ag:=⟨[⟨⟨#[39,97,39]⟩,0,0⟩,⟨⟨#[39,98,39]⟩,0,0⟩,⟨⟨#[39,99,39]⟩,0,0⟩,⟨⟨#[39,100,39]⟩,0,0⟩],[⟨#[115]⟩,⟨#[117]⟩,⟨#[118]⟩],[⟨0,[0,(-2)],0⟩,⟨0,[1],1⟩,⟨0,[],(-1)⟩,⟨1,[(-2),2],2⟩,⟨2,[3,(-1)],3⟩],0⟩
def RY:ag:=⟨SN.au,[⟨#[115]⟩],[⟨0,[1],1⟩,⟨0,[],(-1)⟩],0⟩
theorem pg:isRed RY=true:=by kernel_rfl
def qz:SF:=⟨ae [ab [bI 2 1],ab [bI 3 2,aa 4 0,fk 5 1 8 3 4,aa 2 5],.ret],
 [.tmp 2],6⟩
theorem vi:aH Tryz.prog 37 []=some qz:=by kernel_rfl
def oM:SC :=
 ae [ae [ab [aa 16 4,al 17 2 1,ak 18 17,aM 19 18,aR 20 .lss 16 19],bX 20 (.exit 0)],.block 1 (ae [ab [al 23 2 1,ak 24 23,aa 25 4,aO 26 3 24 25,aS 27 3 26,((some 5),.op (.alloc [(.val (.int .i64 0)),(.emp 1),(.val (.int .i64 0))])),cg 3 5 27],ab [al 28 1 5,ak 29 28,aX 30 37 [29],al 31 1 5,cg 1 31 30],ab [aa 32 3,aS 33 3 5,((some 34),.op (.bP 1 3 [(.val (.int .i64 0)),(.emp 1),(.val (.int .i64 0))] [(0,(.tmp 33))])),fk 35 3 40 32 34,aa 3 35]]),ab [aa 21 4,aG 22 .add 21 1,aa 4 22]]
def qB:SF:=⟨ae [ab [((some 1),.op (.box (.tmp 0))),((some 2),.op (.alloc [(.emp 1),(.emp 1),(.emp 1),(.val (.int .i64 0))]))],ab [bI 6 2,al 7 0 1,ak 8 7,fk 9 3 32 6 8,al 10 0 1,cg 1 10 9],ab [bI 11 2,al 12 1 1,ak 13 12,fk 14 1 16 11 13,al 15 1 1,cg 1 15 14],ab [bI 3 1],ae [ab [aN 4 0],bY 0 oM],ab [aa 36 3,al 37 2 1,cg 1 37 36],ab [aS 38 4 1,cg 4 2 38],.ret],
 [.cell 2 (some 4)],39⟩
theorem uN:aH Tryz.prog 27 []=some qB:=by kernel_rfl
theorem N2 (l:List Int) (d:l.length<=100000) (H:View):av Tryz.prog 37 [encI l] H λr H'=>aK H' r 1 (bt l)/\b3 H H' r:=by
 refine av.of mixed vi ?_
 simp(disch:=omega)only[↓wr,seval,wq,qz,encI]
 refine eo (H:=H) .nil (by simp[aF]) (by unfold aB;simp;omega) (by unfold aB;simp;omega) ?_
 intro e H' c a
 simp(disch:=omega)only[↓wr,seval,wq]
 exact⟨c,λid b=>a id b (by simp[owner])⟩
structure ag.Sj (g:ag):Prop where
 au:g.au.length<=40
 aj:g.aj.length<=40
 rules:g.rules.length<=60
 right:∀ r∈g.rules,r.right.length<=20
theorem KN {g:ag} (e:kF g=false):g.Sj:=by
 simp only[kF,Bool.or_eq_false_iff,Vz,List.any_eq_false,UN] at e
 exact⟨by omega,by omega,by omega,λr hr=>by have:=e.2 r hr;omega⟩
def TV (g:ag) (b1 b2:Nat) (u0 u1:V) (i:Nat) (T:Env) (H:View):Prop :=
 (∃ (u2:V) (bs:sV),T 3=u2/\bs.map (·.2)=g.rules.take i /\
  bc H ((u2,3,eV bs) :: (.sl b1 0 1 4,4,[[u0,u1,.aQ (g.rules.map aI),gi g.start]]) :: (u0,3,g.au.map cP) :: (u1,1,iw g.aj) :: (.sl b2 0 1 4,4,[[.emp 1,.emp 1,.emp 1,gi 0]]) :: ig bs)) /\
 T 1=.ptr b1 0 0/\T 2=.ptr b2 0 0/\T 4=gi i
theorem PE {h:aC} {c d e:V} {g:ag} {b:sV} (f:aK h.view c 3 (g.au.map cP)) (h1:aK h.view d 1 (iw g.aj)) (i:aK h.view e 3 (eV b)) (k:∀ y∈ig b,aK h.view y.1 y.2.1 y.2.2)
  (hr:b.map (·.2)=g.rules):dz h (.agg [c,d,e,gi g.start]) (.agg (af g)):=by
 refine .agg _ _ rfl λj a=>?_
 match j,a with
 | 0,_=>exact Ex f
 | 1,_=>exact GU h1
 | 2,_=>have:=DK i k;rw[hr] at this;exact this
 | 3,_=>exact .val _
 | n+4,a=>exact absurd a (by simp only[UE,UU];omega)
theorem Nv (g:ag) (C:g.Sj):b6 Tryz.prog 27 [.agg (af g)] (.agg (af g)):=by
 refine b6.of (dO g) ?_
 refine av.of mixed uN ?_
 have R:=C.au
 have z2:=C.aj
 have z3:=C.rules
 simp(disch:=omega)only[↓wr,seval,wq,qB,af,encS]
 intro u
 have j:=(bc.nil.new (H:=λ_=>dB.dead) (n:=u) rfl 4 [[.aQ (g.au.map cP),.aQ (g.aj.map λs=>[gs s]),.aQ (g.rules.map aI),gi g.start]])
 try simp(disch:=omega)only[↓wr,seval,wq,af,encS]
 intro D l
 have a:=(j.new l 4 [[.emp 1,.emp 1,.emp 1,gi 0]]).perm (.swap _ _ _)
 have d21:=(bU l bR).1
 try simp(disch:=omega)only[↓wr,seval,wq,af,encS,d21,d21.symm]
 refine cx (a.emp (k:=2) (sz:=3)) (by simp[aF,cP]) (by unfold aB;simp;omega) (by unfold aB;simp;omega) ?_
 intro b H1 f _
 have c0:=f.head.cells
 have F:=f.head.er
 have f1:=f.is 1 rfl (by simp)
 simp(disch:=omega)only[↓wr,seval,wq,af,encS,c0,F,f1]
 have w:=(f.at 1 (by simp)).put (es':=[[b,.aQ (g.aj.map λs=>[gs s]),.aQ (g.rules.map aI),gi g.start]]) rfl rfl
 simp only[Vk,Vb,Vc] at w
 refine cx (w.emp (k:=2) (sz:=1)) (by simp[aF]) (by unfold aB;simp;omega) (by unfold aB;simp;omega) ?_
 intro c S p _
 have c1:=p.head.cells
 have G:=p.head.er
 have f2:=p.is 1 rfl (by simp)
 simp(disch:=omega)only[↓wr,seval,wq,af,encS,c1,G,f2]
 have t:=(p.at 1 (by simp)).put (es':=[[b,c,.aQ (g.rules.map aI),gi g.start]]) rfl rfl
 simp only[Vk,Vb,Vc] at t
 have K:bc _ ((.emp 1,3,eV []) :: (.sl u 0 1 4,4,[[b,c,.aQ (g.rules.map aI),gi g.start]]) :: (b,3,g.au.map cP) :: (c,1,iw g.aj) :: (.sl D 0 1 4,4,[[.emp 1,.emp 1,.emp 1,gi 0]]) :: ig []) :=
  (t.perm (.cons _ (.swap _ _ _))).emp (k:=1) (sz:=3)
 clear j a f w p t l f1 f2
 refine aV.up g.rules.length (TV g u D b c) ⟨⟨.emp 1,[],rfl,by simp,K⟩,rfl,rfl,rfl⟩ ?_
 clear K
 rintro i k T H hk ⟨⟨E,I,t3,e,d⟩,t1,t2,t4⟩
 have f1:=d.is 1 rfl (by simp)
 simp(disch:=omega)only[↓wr,seval,wq,oM,t1,t2,t3,t4,f1]
 apply ai.dec<;>intro M
 .have q:g.rules[i]?=some (g.rules[i]'(by omega)):=Uv (by omega)
  have h:g.rules[i]'(by omega)∈g.rules:=UC _
  have x:g.rules.take (i+1)=g.rules.take i ++ [g.rules[i]'(by omega)]:=by rw[UW,q];rfl
  generalize g.rules[i]'(by omega)=r at q h x
  have hr:=C.right r h
  simp(disch:=omega)only[↓wr,seval,wq,t1,t2,t3,t4,f1,Uy,q,aI,encI]
  intro n N
  have j:=d.new N 3 [aI r]
  try simp(disch:=omega)only[↓wr,seval,wq,t1,t2,t3,t4,set_set]
  refine aw.dL ((N2 r.right (by omega) _).mono ?_)
  rintro v H1 ⟨z,A⟩
  have a:=bc.Af (H:=H.set n (.arr 3 [aI r])) j z (by rw[set_set] at A;exact A)
  have L:=z.cells
  have kv:=z.er
  have f5:=a.is 1 rfl (by simp)
  simp only[aI,encI] at f5
  simp(disch:=omega)only[↓wr,seval,wq,t1,t2,t3,t4,f5,L,kv]
  have f:=(a.at 1 (by simp)).put (es':=[[gi r.left,v,gi r.prec]]) rfl rfl
  simp only[Vb,Vc] at f
  intro m hm
  try simp(disch:=omega)only[↓wr,seval,wq,t1,t2,t3,t4,L,kv,bH]
  have B:(eV I).length<=60:=by
   have h1:=congrArg List.length e
   simp only[UB,Vj] at h1
   simp only[eV,UB]
   omega
  have w:=(f.fresh (o:=.arr 3 [[gi r.left,v,gi r.prec]]) hm).at 2 (by simp)
  refine cx w (by simp[vg,kv]) (by unfold aB;simp at B ⊢;omega) (by unfold aB;simp at B ⊢;omega) ?_
  intro J U p _
  simp(disch:=omega)only[↓wr,seval,wq,t1,t2,t3,t4]
  refine aD hk (by omega) ⟨⟨J,I ++ [(v,r)],rfl,?_,?_⟩,t1,t2,rfl⟩
  .rw[UT,e,x];rfl
  .have t:=((p.at 1 (by simp)).tail).perm (.refl _)
   simp only[Vb,Vc] at t
   refine t.perm ?_
   simp only[eV,ig,UT,U2,VS]
   exact .cons _ (List.perm_append_singleton (v,1,bt r.right) ((.sl u 0 1 4,4,[[b,c,.aQ (g.rules.map aI),gi g.start]]) :: (b,3,g.au.map cP) :: (c,1,iw g.aj) :: (.sl D 0 1 4,4,[[.emp 1,.emp 1,.emp 1,gi 0]]) :: ig I)).symm
 .rw[UK (by omega)] at e
  have f2:=d.is 4 rfl (by simp)
  have c0:=(d.own 2 rfl).cells
  have F:=(d.own 2 rfl).er
  have c1:=(d.own 3 rfl).cells
  have G:=(d.own 3 rfl).er
  have c2:=(d.own 0 rfl).cells
  have k2:=(d.own 0 rfl).er
  simp(disch:=omega)only[↓wr,seval,wq,t1,t2,t3,t4,f1,f2,c0,F,c1,G,c2,k2,d21,d21.symm]
  intro O P
  have j:=(d.at 1 (by simp)).put (es':=[[b,c,E,gi g.start]]) rfl rfl
  simp only[Vb,Vc] at j
  have a:=(j.at 4 (by simp)).put (es':=[[b,c,E,gi g.start]]) rfl rfl
  simp only[Vb,Vc] at a
  have z:O.view=(H.set u (.arr 4 [[b,c,E,gi g.start]])).set D (.arr 4 [[b,c,E,gi g.start]]):=P
  rw[<-z] at a
  exact PE (a.own 3 rfl) (a.own 4 rfl) (a.own 2 rfl) (λy Q=>a.1 y (by
   refine UP _ (UP _ (UP _ (UP _ (UP _ ?_))))
   exact Q)) e
theorem dz.fr {h:aC} {v t:V} (f:dz h v t):Fr h v t:=by
 induction f with
 | val v=>exact .tree _ (.val _)
 | emp k=>exact .emp k
 | sl id off len esz z es es' h1 c d e _ b=>exact .sl id off len esz z es es' h1 c d e b
 | agg cs a h1 _ b=>exact .agg cs a h1 b
 | aY cs a h1 _ b=>exact .aY cs a h1 b
noncomputable def NJ:List (FuncId × DF):=vB Tryz.prog [(251,[]),(180,[]),(236,[]),(237,[])]
theorem Mf:p0 Tryz.prog NJ:=sD _ _
def bW (p:bm):List V:=[gi p.ax,gi p.bu,gi p.rules,gi p.au]
abbrev iU (P:List bm):V:=.aQ (P.map bW)
theorem rO (P:List bm):Tree (iU P):=eM _ _ λx _ v a=>by
 simp[bW] at a
 rcases a with rfl | rfl | rfl | rfl <;> exact .val _
theorem RQ {n:Nat} (h:rT Tryz.prog NJ (λ_ _ _=>none) 251 [iU [iK],gi n]=some (iU (List.replicate n iK))):b6 Tryz.prog 251 [iU [iK],gi n] (iU (List.replicate n iK)) :=
 oA mixed Mf (Kw _) (by
  intro v a;simp at a
  rcases a with rfl | rfl
  .exact rO [iK]
  .exact .val _) h
theorem NB {n:Nat} (h1:1<=n) (a:n<=16):b6 Tryz.prog 251 [iU [iK],gi n] (iU (List.replicate n iK)):=by
 have:n=1∨n=2∨n=3∨n=4∨n=5∨n=6∨n=7∨n=8∨n=9∨n=10∨n=11∨n=12∨n=13∨n=14∨n=15∨n=16:=by omega
 rcases this with rfl | rfl | rfl | rfl | rfl | rfl | rfl | rfl | rfl | rfl | rfl | rfl | rfl | rfl | rfl | rfl <;> exact RQ (by kernel_rfl)
theorem B1 (p:bm):∀ v∈bW p,Tree v:=by
 intro v a;simp[bW] at a
 rcases a with rfl | rfl | rfl | rfl <;> exact .val _
theorem RM (h:aC) (p:bm):dz h (.agg (bW p)) (.agg (bW p)):=.agg _ _ rfl λi hi=>by
 match i,hi with
 | 0,_=>exact .val _
 | 1,_=>exact .val _
 | 2,_=>exact .val _
 | 3,_=>exact .val _
 | n+4,h=>exact absurd h (by simp[bW])
def zT (p:bm):Prop:=ed p/\(-1<=p.ax/\p.ax<=1000000)/\0<=p.bu/\p.bu<=1000000
theorem PX:zT aZ:=by unfold zT ed aZ;decide
theorem GI {x:Int} : (if x < 1048576 then x else 1048576)=min 1048576 x:=by omega
theorem NX {x y:Int} : (if y > x then y else x)=max x y:=by omega
def xb:SC :=
 ae [ab [aR 12 .lss 11 10],bX 12 (.exit 0),.block 1 (ae [ab [aO 13 1 9 11,ak 14 13,aa 7 14],ae [ab [aa 15 7,aG 16 .geq 15 0],ba 16 (ae [ab [al 17 3 4,ak 18 17,aG 19 .add 18 1,((some 20),.op (.mm false (.val (.val (.int .i64 1048576))) (.tmp 19))),al 21 3 4,cg 1 21 20],.exit 1])],ab [aa 22 1,aa 23 7,((some 24),.op (.arith .sub (.val (.val (.int .i64 (-1)))) (.tmp 23))),aO 25 4 22 24,aS 26 4 25,((some 8),.op (.alloc [(.val (.int .i64 0)),(.val (.int .i64 0)),(.val (.int .i64 0)),(.val (.int .i64 0))])),cg 4 8 26],ae [ab [al 27 0 8,ak 28 27,aG 29 .lss 28 0],ba 29 (ae [ab [aS 30 4 4,cg 4 4 30,bq 5 false],.ret])],ab [al 31 1 4,ak 32 31,al 33 1 8,ak 34 33,((some 35),.op (.mm true (.tmp 32) (.tmp 34))),al 36 1 4,cg 1 36 35],.vo [(45,49)] [⟨none,[al 37 2 4,ak 38 37,al 39 2 8,ak 40 39,aR 41 .add 38 40,((some 42),.op (.mm false (.val (.val (.int .i64 1048576))) (.tmp 41))),al 43 3 4,ak 44 43,al 45 3 8,ak 46 45,aR 47 .add 44 46,((some 48),.op (.mm false (.val (.val (.int .i64 1048576))) (.tmp 47))),al 49 2 4,cg 1 49 42,al 50 3 4,cg 1 50 48]⟩]]),ab [aG 51 .add 11 1,aa 11 51]]
def zA:SF:=⟨ae [ab [((some 4),.op (.alloc [(.val (.int .i64 0)),(.val (.int .i64 0)),(.val (.int .i64 0)),(.val (.int .i64 0))])),bq 5 false],ae [ab [aa 9 0,aM 10 9,aN 11 0],bY 0 xb],ab [aS 52 4 4,cg 4 4 52,bq 5 true],.ret],
 [.cell 4 (some 4),.tmp 5],53⟩
theorem C5:aH Tryz.prog 196 []=some zA:=by kernel_rfl
theorem yz {P:List bm} {m:Nat} (h:m < P.length):(P.map bW)[m]?=some (bW (bk P m)):=by
 simp[bk,Uu,h]
theorem Of (P:List bm) (o:∀ m,zT (bk P m)) (l:List Int) (p:aL l) (t:∀ x∈l,bO x/\(x < 0->-1 - x < P.length)) :
  b6 Tryz.prog 196 [encI l,iU P] (.aY [.agg (bW (bF P l aZ).1),gb (bF P l aZ).2]):=by
 have key:∀ H,av Tryz.prog 196 [encI l,iU P] H λr _=>r=.aY [.agg (bW (bF P l aZ).1),gb (bF P l aZ).2]:=?_
 .refine b6.of (by
   intro v g;simp at g
   rcases g with rfl | rfl
   .exact bQ l
   .exact rO P) ((key _).mono λr H' e A _=>?_)
  rw[e];exact FA (RM _ _) (.val _)
 intro H
 refine av.of mixed C5 ?_
 unfold aL at p
 simp(disch:=omega)only[↓wr,seval,wq,zA,encI]
 intro m hm
 try simp(disch:=omega)only[↓wr,seval,wq,encI]
 refine aV.up l.length (λi T H'=>∃ s:bm,zT s/\s.ax=0/\bF P (l.drop i) s=bF P l aZ/\H' m=.arr 4 [bW s]/\T 1=iU P/\T 4=.ptr m 0 0/\T 9=encI l/\T 10=gi l.length/\T 11=gi i) ?_ ?_
 .exact⟨aZ,PX,rfl,rfl,by simp[View.set,bW,aZ],rfl,rfl,rfl,rfl,rfl⟩
 rintro i k T H hk ⟨s,u,d,a,hH,t1,t4,t9,t10,t11⟩
 unfold zT ed at u
 simp(disch:=omega)only[↓wr,seval,wq,xb,t1,t4,t9,t10,t11,encI]
 apply ai.dec<;>intro w
 .have h:l[i]?=some (l[i]'(by omega)):=Uv (by omega)
  have c:l[i]'(by omega)∈l:=UC _
  rw[dW (show i < l.length by omega)] at a
  generalize l[i]'(by omega)=x at h c a
  obtain⟨⟨y,z⟩,f⟩:=t x c
  simp(disch:=omega)only[↓wr,seval,wq,t1,t4,t9,t10,t11,encI,Uy,h]
  apply ai.dec<;>intro j
  .simp(disch:=omega)only[↓wr,seval,wq,t1,t4,t9,t10,t11,encI,hH,bW,GI]
   rw[yQ (show 0<=x from j)] at a
   refine aD hk (by omega) ⟨_,?_,?_,a,?_,t1,t4,t9,t10,rfl⟩
   .unfold zT ed;simp only;omega
   .exact d
   .simp[View.set]
  .have hm:(bT x) < P.length:=by have:=f (by omega);unfold bT;omega
   have hp:=o (bT x)
   unfold zT ed at hp
   simp(disch:=omega)only[↓wr,seval,wq,t1,t4,t9,t10,t11,encI,hH,yz hm]
   simp(disch:=omega)only[↓wr,seval,wq,t1,t4,t9,t10,t11,encI,hH,bW]
   intro q n
   have b:m≠q:=by rintro rfl;rw[hH] at n;simp at n
   try simp(disch:=omega)only[↓wr,seval,wq,t1,t4,t9,t10,t11,encI,hH,b,b.symm,bW]
   apply ai.dec<;>intro he
   .simp(disch:=omega)only[↓wr,seval,wq,t1,t4,t9,t10,t11,encI,hH,b,b.symm,bW]
    rw[Dx (by omega) he] at a
    rw[<-a]
   .simp(disch:=omega)only[↓wr,seval,wq,t1,t4,t9,t10,t11,encI,hH,b,b.symm,bW,GI,NX]
    rw[Ax (by omega) he] at a
    refine aD hk (by omega) ⟨_,?_,?_,a,?_,t1,t4,t9,t10,rfl⟩
    .unfold zT ed;simp only;omega
    .exact d
    .simp[View.set,b]
 .simp(disch:=omega)only[↓wr,seval,wq,t1,t4,t9,t10,t11,hH,bW]
  rw[US (by omega)] at a
  rw[<-a];try rfl
def eh:SF:=⟨ae [ab [bI 2 1],ae [ab [aa 3 0,((some 4),.op (.nil true 0 (.tmp 3) (.val (.emp 1))))],ba 4 (ae [ab [bI 2 1],.ret])],ab [bI 5 2,aa 6 0,fk 7 4 32 5 6,aa 2 7],.ret],
 [.tmp 2],8⟩
theorem jz:aH Tryz.prog 252 []=some eh:=by kernel_rfl
theorem Kz (P:List bm) (c:P.length<=100000) (h1:1<=P.length) (u:V) (H:View) (hu:u=iU P∨aK H u 4 (P.map bW)) :
  av Tryz.prog 252 [u] H λr H'=>aK H' r 4 (P.map bW)/\b3 H H' r:=by
 have a:((P.map bW).all λe=>e.length == 4 && e.all aF)=true:=by simp[VN,bW,aF]
 refine av.of mixed jz ?_
 cases P with
 | nil=>simp at h1
 | cons p r =>
  simp only[UE] at c
  rcases hu with rfl | hu
  .simp(disch:=omega)only[↓wr,seval,wq,eh,iU]
   refine⟨by simpa using a,by unfold aB;simp;omega,λm hm=>?_⟩
   simp(disch:=omega)only[↓wr,seval,wq]
   have:=aK.new (H:=H) (n:=m) (sz:=4) (es:=(p :: r).map bW)
   simp only[UB,UE] at this
   exact⟨by simpa using this,.new hm⟩
  .obtain⟨n,rfl,b⟩:=hu.sl (by simp)
   simp only[UB,UE] at b ⊢
   have he:bC H (.sl n 0 (r.length+1) 4)=some ((p :: r).map bW,[n]):=by
    rw[jO _ n 0 r.length 4 4 _ b (by simp),Vv,UK (by simp)]
   simp(disch:=omega)only[↓wr,seval,wq,eh,he]
   refine⟨by simpa using a,by unfold aB;simp;omega,λm hm=>?_⟩
   simp(disch:=omega)only[↓wr,seval,wq]
   have:=aK.new (H:=H) (n:=m) (sz:=4) (es:=(p :: r).map bW)
   simp only[UB,UE] at this
   exact⟨by simpa using this,.new hm⟩
theorem FD {g:ag} (hr:g.rules.length<=40) {k:Nat} (hk:k<=16) (m:Nat):zT (bk (aA g k) m):=by
 refine⟨ja g k m,?_⟩
 by_cases h:bz (aA g k) m
 .obtain⟨a,b,_⟩:=eN g k m h
  obtain⟨j,f,d,l,e⟩:=wD h
  obtain⟨i,r,c,_,_,hp,_⟩:=iH e
  have hi:i < g.rules.length:=(UI.1 c).1
  have:(bk (aA g k) m).ax=i:=by rw[hp];simp[fv]
  omega
 .rw[jh h];unfold iK;decide
def ue (H:View) (u:V) (P:List bm):Prop:=u=iU P∨aK H u 4 (P.map bW)
theorem ue.jR {H:View} {u:V} {P:List bm} (h:ue H u P):cm H u (iU P):=by
 rcases h with rfl | h
 .exact cm.tree (rO P)
 .exact cm.own h λe he v a=>by
   obtain⟨p,_,rfl⟩:=U0.1 he
   exact B1 p v a
theorem ue.keep {H H':View} {u:V} {P:List bm} (h:ue H u P) (hk:∀ id,owner u=some id->H' id=H id):ue H' u P:=h.imp id λh=>h.keep hk
theorem ue.live {H:View} {u:V} {P:List bm} (h:ue H u P) {id:Nat} (a:owner u=some id):H id≠.dead:=by
 rcases h with rfl | h
 .simp[owner] at a
 .rw[(h.live a).1];simp
theorem M3 {N:List bm} {i m:Nat} {p:bm} (hp:0<=p.ax) (h:bz N m):bz (N.set i p) m:=by
 have hm:=Fo h
 unfold bz at h ⊢
 rw[zj hm];split
 .exact hp
 .exact h
def sY:SC :=
 ae [ab [aR 24 .lss 23 22],bX 24 (.exit 2),.block 3 (ae [ab [aa 25 23,aO 26 3 21 23,aS 27 3 26,((some 7),.op (.alloc [(.val (.int .i64 0)),(.emp 1),(.val (.int .i64 0))])),aa 6 25,cg 3 7 27],ae [ab [aa 28 5,al 29 0 7,ak 30 29,aO 31 4 28 30,al 32 0 31,ak 33 32,aG 34 .geq 33 0],ba 34 (.exit 3)],ab [al 36 1 7,ak 37 36,aa 38 3,aX 39 196 [37,38],aa 35 39,du 40 0 35,du 41 1 35,((some 8),.op (.alloc [(.val (.int .i64 0)),(.val (.int .i64 0)),(.val (.int .i64 0)),(.val (.int .i64 0))])),cg 4 8 40,aa 9 41],ab [aa 42 9],ba 42 (ae [ab [aa 43 5,al 44 0 7,ak 45 44,aa 46 6,al 47 1 8,ak 48 47,aG 49 .add 48 1,al 50 2 8,ak 51 50,aG 52 .add 51 1,((some 53),.op (.mm false (.val (.val (.int .i64 1048576))) (.tmp 52))),al 54 3 8,ak 55 54,((some 56),.op (.build [(.val (.int .i64 0)),(.val (.int .i64 0)),(.val (.int .i64 0)),(.val (.int .i64 0))] [(0,1,(.tmp 46)),(1,1,(.tmp 49)),(2,1,(.tmp 53)),(3,1,(.tmp 55))])),aO 57 4 43 45,cg 4 57 56],ab [bq 4 false]])]),ab [aG 58 .add 23 1,aa 23 58]]
def oL:SC :=
 ae [ae [ab [aa 16 4,c7 17 16],bX 17 (.exit 0)],.block 1 (ae [ab [bq 4 true],ab [aa 18 3,aX 19 252 [18],aa 5 19],ae [ab [al 20 2 1,ak 21 20,aM 22 21,aN 23 0],bY 2 sY],ab [aa 59 5,aa 3 59]])]
def xf:SF:=⟨ae [ab [cw 1 0,bI 2 1],ab [((some 10),.op (.build [(.val (.int .i64 0)),(.val (.int .i64 0)),(.val (.int .i64 0)),(.val (.int .i64 0))] [(0,1,(.val (.val (.int .i64 (-1)))))])),((some 11),.op (.bP 1 4 [(.val (.int .i64 0)),(.val (.int .i64 0)),(.val (.int .i64 0)),(.val (.int .i64 0))] [(0,(.tmp 10))])),al 12 1 1,ak 13 12,aM 14 13,aX 15 251 [11,14],aa 3 15],ae [ab [bq 4 false],bY 0 oL],ab [aa 60 3,aa 2 60],.ret],
 [.tmp 2],61⟩
theorem Ap:aH Tryz.prog 195 [1]=some xf:=by kernel_rfl
def SD (g:ag) (H0:View) (P:List bm) (d i:Nat) (T:Env) (H:View):Prop :=
 ∃ (N:List bm) (u:V),N.length=g.aj.length/\mg P i N (g.rules.drop i)=xM g.rules P/\(∀ m,bz P m->bz N m)/\ue H u P/\owner u≠some d/\H d=.arr 4 (N.map bW) /\
  (∀ id,H0 id≠.dead->H id=H0 id/\id≠d)/\((T 4=gb true/\N=P)∨(T 4=gb false/\∃ m,¬ bz P m/\bz N m)) /\
  T 1=.aJ (af g) 0/\T 3=u/\T 5=.sl d 0 g.aj.length 4/\T 21=.aQ (g.rules.map aI)/\T 22=gi g.rules.length/\T 23=gi i
theorem Py (g:ag) (hg:g.Ok) (M:g.cX) (H:View):av Tryz.prog 195 [.agg (af g)] H λr H'=>aK H' r 4 ((ao g).map bW)/\b3 H H' r:=by
 refine av.of mixed Ap ?_
 have z1:=M.lp
 have z2:=M.aj
 have z3:=M.rules
 simp(disch:=omega)only[↓wr,seval,wq,xf,af,encS]
 intro n1 O
 try simp(disch:=omega)only[↓wr,seval,wq]
 refine aw.j0 (NB z1 z2) (by kernel_rfl) ⟨cm.sl (off:=0) (len:=1) (esz:=4) (z:=4) (es:=[bW iK]) (by simp[View.set,bW,iK]) (by simp) (λe he v hv=>by simp at he;subst he;exact B1 _ v hv),cm.tree (.val _),trivial⟩ ?_
 simp(disch:=omega)only[↓wr,seval,wq]
 refine aV.intro (λk T H'=>∃ (j:Nat) (u:V),j<=g.aj.length/\j<=dQ (sj (aA g j))/\ue H' u (aA g j)/\b3 H H' u/\T 1=.aJ (af g) 0/\T 3=u /\
   ((T 4=gb false/\j+k=g.aj.length+1)∨(T 4=gb true/\aA g j=ao g/\aK H' u 4 ((ao g).map bW)))) (g.aj.length+1) ?_ ?_
 .refine⟨0,_,by omega,by omega,.inl rfl,λid a=>⟨?_,by simp[owner]⟩,rfl,rfl,.inl ⟨rfl,by omega⟩⟩
  have e:id≠n1:=by rintro rfl;exact a O
  simp[View.set,e]
 clear O
 rintro k T H1 ⟨j,u,hj,P,hu,f,t1,t3,E⟩
 rcases E with ⟨t4,bn⟩ | ⟨t4,A,s⟩
 .have hlen:=eL g j
  simp(disch:=omega)only[↓wr,seval,wq,oL,t1,t3,t4,af,encS]
  refine aw.dL ((Kz (aA g j) (by omega) (by omega) u H1 hu).mono ?_)
  rintro v H2 ⟨hv,F⟩
  obtain⟨d,rfl,p⟩:=hv.sl (by simp;omega)
  simp only[UB,hlen]
  simp(disch:=omega)only[↓wr,seval,wq,t1,t3,t4,af,encS]
  refine aV.up g.rules.length (SD g H (aA g j) d) ?_ ?_
  .refine⟨aA g j,u,hlen,rfl,λ_ h=>h,hu.keep λid a=>(F id (hu.live a)).1,λe=>?_,p,λid a=>?_,.inl ⟨rfl,rfl⟩,t1,t3,rfl,rfl,rfl,rfl⟩
   .exact(F d (hu.live e)).2 rfl
   .have h1:=f id a
    have h2:=F id (by rw[h1.1];exact a)
    exact⟨by rw[h2.1,h1.1],λe=>h2.2 (by rw[e];rfl)⟩
  clear t1 t3 t4 hu f F p hv
  rintro i q T H3 hq ⟨N,u,hN,b,hle,hu,G,p,f,E,t1,t3,t5,t21,t22,t23⟩
  simp(disch:=omega)only[↓wr,seval,wq,sY,t1,t3,t5,t21,t22,t23]
  apply ai.dec<;>intro hc
  .have Q:g.rules[i]?=some (g.rules[i]'(by omega)):=Uv (by omega)
   have y:g.rules[i]'(by omega)∈g.rules:=UC _
   rw[dW (show i < g.rules.length by omega)] at b
   generalize g.rules[i]'(by omega)=r at Q y b
   have hl:=M.left r y
   have R:=hg.ax r y
   have S:r.left.toNat < N.length:=by omega
   have U:(N.map bW).getD r.left.toNat []=bW (bk N r.left.toNat):=by simp[bk,Uu,S]
   have hP:=λm=>FD (g:=g) z3 (show j<=16 by omega) m
   simp(disch:=omega)only[↓wr,seval,wq,t1,t3,t5,t21,t22,t23,Uy,Q,aI,encI]
   intro n t
   have c:d≠n:=by rintro rfl;rw[p] at t;simp at t
   have W:∀ o,ue (H3.set n o) u (aA g j):=λo=>hu.keep λid a=>by
    have:id≠n:=by rintro rfl;exact hu.live a t
    simp[View.set,this]
   have X:∀ o,∀ id,H id≠.dead->(H3.set n o) id=H id/\id≠d:=λo id a=>by
    have h1:=f id a
    have:id≠n:=by rintro rfl;rw[h1.1] at t;exact a t
    exact⟨by simp[View.set,this,h1.1],h1.2⟩
   try simp(disch:=omega)only[↓wr,seval,wq,t1,t3,t5,t21,t22,t23,p,c,c.symm]
   refine⟨by omega,by omega,?_⟩
   try simp(disch:=omega)only[↓wr,seval,wq,t1,t3,t5,t21,t22,t23,p,c,c.symm,U,bW]
   have Y:=qv (aA g j) r.right aZ
   apply ai.dec<;>intro hk
   .simp(disch:=omega)only[↓wr,seval,wq,t1,t3,t5,t21,t22,t23,p,c,c.symm]
    have A:pS (aA g j) i N r=N:=by unfold pS;rw[Uz hk]
    rw[mg,A] at b
    rw[set_set]
    exact aD hq (by omega) ⟨N,u,hN,b,hle,W _,G,by simp[View.set,c,p],X _,E,t1,t3,t5,t21,t22,rfl⟩
   .simp(disch:=omega)only[↓wr,seval,wq,t1,t3,t5,t21,t22,t23,p,c,c.symm]
    refine aw.j0 (Of (aA g j) hP r.right R.2.2.1 λx hx=>⟨R.2.2.2 x hx,λt=>by rw[hlen];exact M.neg y hx t⟩) (by kernel_rfl) ⟨cm.tree (bQ r.right),by rw[set_set];exact(W _).jR,trivial⟩ ?_
    have Z:=mH (λm=>ja g j m) r.right aZ fZ
    have a8:(0:Int)<=(bF (aA g j) r.right aZ).1.bu:=Y
    have an:gE (aA g j) r.right->(bF (aA g j) r.right aZ).1.bu<=16:=λha=>(hZ (aA g j) 16 r.right aZ ha).2 ⟨by simp[aZ],λx hx t=>by have:=(eN g j _ (ha x hx t)).2.1;omega⟩
    have aq:=gL (aA g j) r.right aZ
    generalize I:bF (aA g j) r.right aZ=sp at Z a8 an aq
    unfold ed at Z
    simp(disch:=omega)only[↓wr,seval,wq,t1,t3,t5,t21,t22,t23,p,c,c.symm,bW]
    intro q2 ar
    have B:=(bU ar bR).1
    have l:=(bU (bU ar bR).2 bR).2
    have w:d≠q2:=by rintro rfl;rw[p] at l;simp at l
    try simp(disch:=omega)only[↓wr,seval,wq,t1,t3,t5,t21,t22,t23,p,c,c.symm,B,B.symm,w,w.symm,bW]
    apply ai.split<;>intro hb
    .have br:=an (aq.1 hb)
     simp(disch:=omega)only[↓wr,seval,wq,t1,t3,t5,t21,t22,t23,p,c,c.symm,B,B.symm,w,w.symm,bW]
     refine⟨by omega,by omega,?_⟩
     have A:pS (aA g j) i N r=N.set r.left.toNat (fv (aA g j) i r):=by unfold pS;rw[Ux hk,I,Uz hb]
     rw[mg,A] at b
     have C:(fv (aA g j) i r)=⟨i,sp.1.bu+1,min 1048576 (sp.1.rules+1),sp.1.au⟩:=by rw[fv,I]
     have a1:0<=(fv (aA g j) i r).ax:=by rw[C];simp only;omega
     have a6:¬ bz N r.left.toNat:=hk
     refine aD hq (by omega) ⟨_,u,by simp[hN],b,λm hm=>M3 a1 (hle m hm),?_,G,?_,?_,.inr ⟨rfl,r.left.toNat,λbd=>a6 (hle _ bd),?_⟩,t1,t3,t5,t21,t22,rfl⟩
     .refine hu.keep λid a=>?_
      have J:id≠n:=by rintro rfl;exact hu.live a t
      have K:id≠q2:=by rintro rfl;exact hu.live a l
      have e3:id≠d:=by rintro rfl;exact G a
      simp[View.set,J,K,e3]
     .simp only[View.set,if_true]
      rw[List.map_set,C,U];simp only[bW,List.drop_succ_cons,List.drop_nil,Vv,GI]
     .intro id a
      have h1:=f id a
      have J:id≠n:=by rintro rfl;rw[h1.1] at t;exact a t
      have K:id≠q2:=by rintro rfl;rw[h1.1] at l;exact a l
      exact⟨by simp[View.set,J,K,h1.2,h1.1],h1.2⟩
     .unfold bz;rw[zj S,Uz rfl];exact a1
    .simp(disch:=omega)only[↓wr,seval,wq,t1,t3,t5,t21,t22,t23,p,c,c.symm,B,B.symm,w,w.symm,bW]
     have A:pS (aA g j) i N r=N:=by unfold pS;rw[Ux hk,I,Ux (by rw[hb];simp)]
     rw[mg,A] at b
     refine aD hq (by omega) ⟨N,u,hN,b,hle,?_,G,by simp[View.set,c,w,p],?_,E,t1,t3,t5,t21,t22,rfl⟩
     .refine hu.keep λid a=>?_
      have J:id≠n:=by rintro rfl;exact hu.live a t
      have K:id≠q2:=by rintro rfl;exact hu.live a l
      simp[View.set,J,K]
     .intro id a
      have h1:=f id a
      have J:id≠n:=by rintro rfl;rw[h1.1] at t;exact a t
      have K:id≠q2:=by rintro rfl;rw[h1.1] at l;exact a l
      exact⟨by simp[View.set,J,K,h1.1],h1.2⟩
  .simp(disch:=omega)only[↓wr,seval,wq,t1,t3,t5,t21,t22,t23]
   rw[US (by omega),mg,<-nU] at b
   have s:aK H3 (.sl d 0 g.aj.length 4) 4 (N.map bW):=.inr ⟨d,by simp[hN],p⟩
   have a7:b3 H H3 (.sl d 0 g.aj.length 4):=λid a=>⟨(f id a).1,λe=>(f id a).2 (by simp[owner] at e;exact e.symm)⟩
   rw[b] at s
   rcases E with ⟨E,he⟩ | ⟨E,m,bl,L⟩
   .have D:aA g (j+1)=aA g j:=by rw[<-b,he]
    have C:=PA hj D
    rw[D] at s
    exact⟨0,by omega,j,_,hj,P,.inr s,a7,rfl,rfl,.inr ⟨E,C,by rw[<-C];exact s⟩⟩
   .rw[b] at L
    rcases KY P with e | e
    .rw[e] at L;exact absurd L bl
    .have:=Ii g (j+1)
     exact⟨k - 1,by omega,j+1,_,by omega,e,.inr s,a7,rfl,rfl,.inl ⟨E,by omega⟩⟩
 .simp(disch:=omega)only[↓wr,seval,wq,oL,t1,t3,t4]
  exact⟨s,f⟩
theorem N7 {h:aC} {u:V} {P:List bm} (b:aK h.view u 4 (P.map bW)):dz h u (iU P):=by
 refine dz.own b rfl (λi _=>rfl) (λi j hi a=>?_)
 simp only[UB] at hi
 have e:(P.map bW).getD i []=bW P[i]:=by simp[Uu,hi]
 rw[e] at a ⊢
 match j,a with
 | 0,_=>exact .val _
 | 1,_=>exact .val _
 | 2,_=>exact .val _
 | 3,_=>exact .val _
 | n+4,h=>exact absurd h (by simp[bW])
theorem PC (g:ag) (a:g.Ok) (b:g.cX):b6 Tryz.prog 195 [.agg (af g)] (iU (ao g)) :=
 b6.of (dO g) ((Py g a b _).mono λr H' h d c=>N7 (by rw[c];exact h.1))
def gQ (g:ag):List Int:=(ao g).map bm.ax
def nI:SC :=
 ae [ae [ab [aa 8 6,al 9 1 2,ak 10 9,aM 11 10,aR 12 .lss 8 11],bX 12 (.exit 0)],.block 1 (ae [ae [ab [al 15 1 2,ak 16 15,aa 17 6,aO 18 1 16 17,ak 19 18,aG 20 .geq 19 0],ba 20 (.exit 1)],ab [aa 21 1,al 22 1 2,ak 23 22,aa 24 6,aO 25 1 23 24,ak 26 25,((some 27),.op (.arith .sub (.val (.val (.int .i64 (-1)))) (.tmp 26))),aO 28 1 21 27,ak 29 28,aa 7 29],ae [ab [aa 30 7,aG 31 .eql 30 0],ba 31 (ae [ab [aN 4 0],.ret])],ab [aa 32 5,aa 33 7,((some 34),.op (.mm true (.tmp 32) (.tmp 33))),aa 5 34]]),ab [aa 13 6,aG 14 .add 13 1,aa 6 14]]
def qj:SF:=⟨ae [ab [cw 2 0,aN 4 0],ab [aN 5 0],ae [ab [aN 6 0],bY 0 nI],ab [aa 35 5,aG 36 .add 35 1,aa 4 36],.ret],
 [.tmp 4],37⟩
theorem vq:aH Tryz.prog 137 [2]=some qj:=by kernel_rfl
def lF:SC :=
 ae [ae [ab [aa 25 6,al 26 2 1,ak 27 26,aM 28 27,aR 29 .lss 25 28],bX 29 (.exit 2)],.block 3 (ae [ab [al 32 2 1,ak 33 32,aa 34 6,aO 35 3 33 34,aS 36 3 35,((some 7),.op (.alloc [(.val (.int .i64 0)),(.emp 1),(.val (.int .i64 0))])),cg 3 7 36],.region false [⟨none,[aa 37 3,al 38 0 7,ak 39 38,aO 40 1 37 39,ak 41 40,aG 42 .eql 41 0,aa 43 42]⟩,⟨(some (43,true)),[aS 44 3 7,aa 45 5,aX 46 137 [44,45],aa 47 4,aR 48 .eql 46 47]⟩,⟨none,[eu 49 43 48]⟩],ba 49 (ab [aa 50 3,al 51 0 7,ak 52 51,aa 53 4,aO 54 1 50 52,cg 1 54 53])]),ab [aa 30 6,aG 31 .add 30 1,aa 6 31]]
def lL:SC :=
 ae [ae [ab [aa 15 4,al 16 1 1,ak 17 16,aM 18 17,aR 19 .leq 15 18],bX 19 (.exit 0)],.block 1 (ae [ab [bI 22 2,aa 23 3,fk 24 1 8 22 23,aa 5 24],ab [aN 6 0],bY 2 lF]),ab [aa 20 4,aG 21 .add 20 1,aa 4 21]]
def mQ:SF:=⟨ae [ab [cw 1 0,bI 2 1],ae [ab [aS 8 4 1,aX 9 50 [8],c7 10 9],ba 10 (ae [ab [bI 2 1],.ret])],ab [al 11 1 1,ak 12 11,aM 13 12,((some 14),.op (.make 1 8 [(.val (.int .i64 0))] (.tmp 13) (.tmp 13))),aa 3 14],ae [ab [aN 4 1],bY 0 lL],ab [aa 55 3,aa 2 55],.ret],
 [.tmp 2],56⟩
theorem sL:aH Tryz.prog 136 [1]=some mQ:=by kernel_rfl
theorem y3 {h:List Int} {m:Nat} (hm:m < h.length):h[m]?=some (fD h m):=by simp[fD,Uu,hm]
theorem MP {h:List Int} {m:Nat} (hm:m < h.length):(bt h).getD m []=[gi (fD h m)]:=by simp[fD,Uu,hm]
def Pw (h:List Int):Prop:=∀ m,0<=fD h m/\fD h m<=1000
theorem FW {g:ag} (hr:g.rules.length<=40) {k:Nat} (hk:k<=16):Pw (fh (aA g k)):=λm=>by
 rw[ll]
 by_cases h:bz (aA g k) m
 .obtain⟨a,b,_⟩:=eN g k m h
  omega
 .rw[jh h];unfold iK;decide
theorem Ej (r:bb) (h:List Int) (j:Pw h) (l:Cq h.length r):az Tryz.prog 137 [.agg (aI r),encI h] (gi (fy h r.right 0)):=by
 obtain⟨_,_,_,m,n⟩:=l
 refine az.val (by
  intro v c;simp at c
  rcases c with rfl | rfl
  .exact bZ _ (fJ r)
  .exact bQ h) λH=>?_
 refine av.of mixed vq ?_
 simp(disch:=omega)only[↓wr,seval,wq,qj,aI,encI]
 refine aV.up r.right.length (λi T H'=>∃ top:Int,0<=top/\top<=1000/\fy h (r.right.drop i) top=fy h r.right 0/\T 1=encI h/\T 2=.aJ (aI r) 0/\T 5=gi top/\T 6=gi i) ⟨0,by omega,by omega,rfl,rfl,rfl,rfl,rfl⟩ ?_
 rintro i k T H hk ⟨top,o,h1,a,t1,t2,t5,t6⟩
 simp(disch:=omega)only[↓wr,seval,wq,nI,t1,t2,t5,t6,aI,encI]
 apply ai.dec<;>intro p
 .have e:r.right[i]?=some (r.right[i]'(by omega)):=Uv (by omega)
  have b:r.right[i]'(by omega)∈r.right:=UC _
  rw[dW (show i < r.right.length by omega)] at a
  generalize r.right[i]'(by omega)=x at e b a
  obtain⟨⟨q,s⟩,f⟩:=n x b
  simp(disch:=omega)only[↓wr,seval,wq,t1,t2,t5,t6,aI,encI,Uy,e]
  apply ai.dec<;>intro g
  .simp(disch:=omega)only[↓wr,seval,wq,t1,t2,t5,t6,aI,encI]
   rw[fy,Uz (show 0<=x from g)] at a
   exact aD hk (by omega) ⟨top,o,h1,a,t1,t2,t5,rfl⟩
  .have hm:bT x < h.length:=by have:=f (by omega);unfold bT;omega
   have d:=y3 hm
   have t:=j (bT x)
   rw[fy,Ux g] at a
   generalize fD h (bT x)=v at d t a
   simp(disch:=omega)only[↓wr,seval,wq,t1,t2,t5,t6,aI,encI,Uy,e,d]
   apply ai.eq<;>intro c
   .simp(disch:=omega)only[↓wr,seval,wq,t1,t2,t5,t6]
    rw[Uz c] at a
    rw[<-a]
   .simp(disch:=omega)only[↓wr,seval,wq,t1,t2,t5,t6,NX]
    rw[Ux c] at a
    exact aD hk (by omega) ⟨_,by omega,by omega,a,t1,t2,rfl,rfl⟩
 .simp(disch:=omega)only[↓wr,seval,wq,t1,t2,t5,t6]
  rw[US (by omega),fy] at a
  rw[a]
def TL (g:ag) (old:List Int) (k:Int) (b d i:Nat) (T:Env) (H:View):Prop :=
 ∃ out:List Int,out.length=g.aj.length/\(g.rules.drop i).foldl (j6 old k) out=g.rules.foldl (j6 old k) old/\b≠d/\H b=.arr 1 (bt out)/\H d=.arr 1 (bt old) /\
  T 1=.aJ (af g) 0/\T 3=.sl b 0 g.aj.length 1/\T 4=gi k/\T 5=.sl d 0 g.aj.length 1/\T 6=gi i
theorem yW (g:ag) (D:g.Ok):b6 Tryz.prog 136 [.agg (af g)] (encI (if bV g=true then fh (ao g) else [])):=by
 refine b6.of (dO g) ?_
 refine av.of mixed sL ?_
 have y:=D.aj
 unfold aL at y
 simp(disch:=omega)only[↓wr,seval,wq,mQ,af,encS]
 refine aw.pure (lB g D) ?_
 repeat' (first | ((first|apply ai.dec|apply ai.eq|apply ai.ne|apply ai.split)<;>intro)|(simp(disch:=omega)only[↓wr,seval,wq,af,encS]))
 .rename_i hr
  have A:=b4 hr
  have N:=A.lp
  have z2:=A.aj
  have z3:=A.rules
  rw[Uz hr]
  try simp(disch:=omega)only[↓wr,seval,wq,af,encS]
  refine⟨⟨by omega,by unfold aB;omega,by unfold aB;omega⟩,λh=>by omega,?_⟩
  intro _ b
  try simp(disch:=omega)only[↓wr,seval,wq,af,encS]
  refine aV.up g.aj.length (λj T H'=>H' b=.arr 1 (bt (fh (aA g j)))/\T 1=.aJ (af g) 0/\T 3=.sl b 0 g.aj.length 1/\T 4=gi ((j:Int)+1)) ?_ ?_
  .refine⟨?_,rfl,rfl,rfl⟩
   simp[View.set,aA,iter,iK]
  rintro j k T H hk ⟨f,t1,t3,t4⟩
  simp(disch:=omega)only[↓wr,seval,wq,lL,t1,t3,t4,af,encS]
  apply ai.dec<;>intro K
  .have hlen:=eL g j
   obtain⟨nl,v⟩:∃ nl,g.aj.length=nl+1:=⟨g.aj.length - 1,by omega⟩
   have he:bC H (.sl b 0 g.aj.length 1)=some (bt (fh (aA g j)),[b]):=by
    rw[v,jO _ b 0 nl 1 1 _ f (by simp[hlen,v]),Vv,UK (by simp[hlen,v])]
   have E:(bt (fh (aA g j))).isEmpty=false:=by
    cases L:aA g j with
    | nil=>rw[L] at hlen;simp at hlen;omega
    | cons=>rfl
   simp(disch:=omega)only[↓wr,seval,wq,t1,t3,t4,he,sZ _ _ _ _ _ _ _ E,hlen]
   refine⟨by simp[VN,aF],⟨by unfold aB;omega,by unfold aB;omega⟩,λd t=>?_⟩
   have o:b≠d:=by rintro rfl;rw[f] at t;simp at t
   refine aV.up g.rules.length (TL g (fh (aA g j)) ((j:Int)+1) b d) ⟨fh (aA g j),by simp[hlen],rfl,o,by simp[View.set,o,f],by simp[View.set],t1,t3,t4,rfl,rfl⟩ ?_
   clear t1 t3 t4 f he t
   rintro i q T H F ⟨out,w,a,_,f,t,t1,t3,t4,t5,t6⟩
   simp(disch:=omega)only[↓wr,seval,wq,lF,t1,t3,t4,t5,t6,af]
   apply ai.dec<;>intro G
   .have B:g.rules[i]?=some (g.rules[i]'(by omega)):=Uv (by omega)
    have s:g.rules[i]'(by omega)∈g.rules:=UC _
    rw[dW (show i < g.rules.length by omega),Vf] at a
    generalize g.rules[i]'(by omega)=r at B s a
    have I:=A.qT D s
    have O:=A.left r s
    have p:=MP (h:=out) (m:=r.left.toNat) (by omega)
    have C:=FW (g:=g) z3 (show j<=16 by omega)
    have x:(fh (aA g j)).length=g.aj.length:=by simp[hlen]
    unfold j6 at a
    generalize fh (aA g j)=old at t C x a ⊢
    simp(disch:=omega)only[↓wr,seval,wq,t1,t3,t4,t5,t6,af,aI,encI,Uy,B]
    intro n y
    have c:b≠n:=by rintro rfl;rw[f] at y;simp at y
    have u:d≠n:=by rintro rfl;rw[t] at y;simp at y
    try simp(disch:=omega)only[↓wr,seval,wq,t1,t3,t4,t5,t6,af,aI,encI,f,c,c.symm,p]
    refine⟨by omega,by omega,?_⟩
    apply ai.eq<;>intro J
    .simp(disch:=omega)only[↓wr,seval,wq,t1,t3,t4,t5,t6,af,aI,encI,f,c,c.symm,p]
     refine aw.G7 (Ej r old C (by rw[x];exact I)) (by kernel_rfl) (.val _) ⟨cm.tree (bZ _ (fJ r)),AS (l:=old) (by simp[View.set,u,t]) x.symm,trivial⟩ ?_
     simp(disch:=omega)only[↓wr,seval,wq,t1,t3,t4,t5,t6,af,aI,encI,f,c,c.symm,p]
     apply ai.eq<;>intro z
     .simp(disch:=omega)only[↓wr,seval,wq,t1,t3,t4,t5,t6,af,aI,encI,f,c,c.symm,p]
      refine⟨by omega,by omega,?_⟩
      rw[Uz ⟨J,z⟩] at a
      refine aD F (by omega) ⟨_,by simp[w],a,o,?_,by simp[View.set,o.symm,u,t],t1,t3,t4,t5,rfl⟩
      simp only[View.set,if_true]
      rw[<-NW]
     .simp(disch:=omega)only[↓wr,seval,wq,t1,t3,t4,t5,t6,af,aI,encI,f,c,c.symm,p]
      rw[Ux (λe=>z e.2)] at a
      exact aD F (by omega) ⟨out,w,a,o,by simp[View.set,c,f],by simp[View.set,u,t],t1,t3,t4,t5,rfl⟩
    .simp(disch:=omega)only[↓wr,seval,wq,t1,t3,t4,t5,t6,af,aI,encI,f,c,c.symm,p]
     rw[Ux (λe=>J e.1)] at a
     exact aD F (by omega) ⟨out,w,a,o,by simp[View.set,c,f],by simp[View.set,u,t],t1,t3,t4,t5,rfl⟩
   .simp(disch:=omega)only[↓wr,seval,wq,t1,t3,t4,t5,t6]
    rw[US (by omega),Wi,Ro] at a
    rw[a] at f
    exact aD hk (by omega) ⟨f,t1,t3,rfl⟩
  .simp(disch:=omega)only[↓wr,seval,wq,t1,t3,t4]
   intro M z
   have:j=g.aj.length:=by omega
   subst this
   exact jf (by rw[z];exact .inr ⟨b,by simp[fL],f⟩)
 .rename_i hr
  rw[hr]
  intro M z
  exact .emp _
def mP:SC :=
 ae [ae [ab [aa 20 7,aG 21 .geq 20 0],bX 21 (.exit 2)],.block 3 (ae [.region true [⟨none,[al 24 2 1,ak 25 24,aa 26 7,aO 27 3 25 26,al 28 0 27,ak 29 28,aa 30 5,aR 31 .eql 29 30,aa 32 31]⟩,⟨(some (32,true)),[aa 33 3,aa 34 5,aO 35 1 33 34,ak 36 35,aG 37 .gtr 36 0]⟩,⟨none,[eu 38 32 37,aa 39 38]⟩,⟨(some (39,true)),[al 40 2 1,ak 41 40,aa 42 7,aO 43 3 41 42,aS 44 3 43,aa 45 3,aX 46 137 [44,45],aa 47 3,aa 48 5,aO 49 1 47 48,ak 50 49,aR 51 .eql 46 50]⟩,⟨none,[eu 52 39 51]⟩],ba 52 (ab [aa 53 7,aa 6 53])]),ab [aa 22 7,aG 23 .sub 22 1,aa 7 23]]
def jt:SC :=
 ae [ae [ab [aa 10 5,aa 11 3,aM 12 11,aR 13 .lss 10 12],bX 13 (.exit 0)],.block 1 (ae [ab [aN 6 (-1)],ae [ab [al 16 2 1,ak 17 16,aM 18 17,aG 19 .sub 18 1,aa 7 19],bY 2 mP],ab [aa 54 4,aa 55 6,((some 56),.op (.bP 1 1 [(.val (.int .i64 0))] [(0,(.tmp 55))])),fk 57 1 8 54 56,aa 4 57]]),ab [aa 14 5,aG 15 .add 14 1,aa 5 15]]
def pr:SF:=⟨ae [ab [cw 1 0,bI 2 1],ab [aS 8 4 1,aX 9 136 [8],aa 3 9],ab [bI 4 1],ae [ab [aN 5 0],bY 0 jt],ab [aa 58 4,aa 2 58],.ret],
 [.tmp 2],59⟩
theorem tL:aH Tryz.prog 73 [1]=some pr:=by kernel_rfl
theorem LM {h:List Int} {m:Nat} {l:List bb} {c:Nat} {r:bb} (hr:l[c]?=some r):kp h m (l.drop c) c=if r.left=(m:Int)/\0 < fD h m/\fy h r.right 0=fD h m then (c:Int) else kp h m (l.drop (c+1)) ((c:Int)+1):=by
 have a:c < l.length:=(UI.1 hr).1
 have he:l[c]=r:=(UI.1 hr).2
 rw[Vg a,he,kp]
def T0 (g:ag) (h:List Int) (u:V) (j c:Nat) (T:Env) (H:View):Prop :=
 c<=g.rules.length/\T 1=.aJ (af g) 0/\T 3=encI h/\T 4=u/\aK H u 1 (bt ((List.range j).map λm=>kp h m g.rules 0))/\T 5=gi j/\T 6=gi (kp h j (g.rules.drop c) c)/\T 7=gi ((c:Int) - 1)
theorem A3 (g:ag) (A:g.Ok):b6 Tryz.prog 73 [.agg (af g)] (encI (if bV g=true then gQ g else [])):=by
 refine b6.of (dO g) ?_
 refine av.of mixed tL ?_
 simp(disch:=omega)only[↓wr,seval,wq,pr,af,encS]
 refine aw.pure (yW g A).pure ?_
 by_cases hr:bV g=true
 .have l:=b4 hr
  have K:=l.lp
  have z2:=l.aj
  have z3:=l.rules
  rw[Uz hr,Uz hr]
  have t:gQ g=(List.range g.aj.length).map λm=>kp (fh (ao g)) m g.rules 0:=by
   apply List.ext_getElem (by simp[gQ,fL])
   intro m h1 q
   simp only[gQ,List.getElem_map,List.getElem_range]
   rw[Kp (λr v=>(l.left r v).1)]
   have:m < (ao g).length:=by simpa [gQ] using h1
   simp[bk,Uu,this]
  have o:Pw (fh (ao g)):=FW z3 z2
  have p:(fh (ao g)).length=g.aj.length:=by simp[fL]
  rw[t]
  generalize fh (ao g)=h at o p ⊢
  simp(disch:=omega)only[↓wr,seval,wq,encI,af,encS]
  refine aV.up g.aj.length (λj T H'=>∃ u,T 4=u/\aK H' u 1 (bt ((List.range j).map λm=>kp h m g.rules 0))/\T 1=.aJ (af g) 0/\T 3=encI h/\T 5=gi j) ⟨_,rfl,.nil,rfl,rfl,rfl⟩ ?_
  rintro j k T H hk ⟨u,t4,b,t1,t3,t5⟩
  simp(disch:=omega)only[↓wr,seval,wq,jt,t1,t3,t4,t5,encI]
  apply ai.dec<;>intro s
  .have i:=y3 (h:=h) (m:=j) (by omega)
   simp(disch:=omega)only[↓wr,seval,wq,t1,t3,t4,t5,encI,af]
   refine aV.intro (T0 g h u j) g.rules.length ?_ ?_
   .refine⟨by omega,t1,t3,t4,b,t5,?_,rfl⟩
    rw[US (by omega)];rfl
   clear t1 t3 t4 t5 b
   rintro c T H ⟨D,t1,t3,t4,b,t5,t6,t7⟩
   simp(disch:=omega)only[↓wr,seval,wq,mP,t1,t3,t4,t5,t6,t7,encI,af]
   apply ai.dec<;>intro w
   .obtain⟨c,rfl⟩:∃ E,c=E+1:=⟨c - 1,by omega⟩
    have a:g.rules[c]?=some (g.rules[c]'(by omega)):=Uv (by omega)
    have f:g.rules[c]'(by omega)∈g.rules:=UC _
    generalize g.rules[c]'(by omega)=r at a f
    have x:=l.qT A f
    have d:=LM (h:=h) (m:=j) a
    have B:(((c+1:Nat):Int) - 1)=(c:Int):=by omega
    rw[B] at t7
    try simp only[B]
    rw[show (((c+1:Nat):Int))=(c:Int)+1 by omega] at t6
    simp(disch:=omega)only[↓wr,seval,wq,t1,t3,t4,t5,t6,t7,encI,af,aI,Uy,a]
    apply ai.eq<;>intro h1
    .simp(disch:=omega)only[↓wr,seval,wq,t1,t3,t4,t5,t6,t7,encI,af,aI,Uy,a,i]
     apply ai.dec<;>intro q
     .simp(disch:=omega)only[↓wr,seval,wq,t1,t3,t4,t5,t6,t7,encI,af,aI,Uy,a,i]
      refine aw.pure (Ej r h o (by rw[p];exact x)) ?_
      simp(disch:=omega)only[↓wr,seval,wq,t1,t3,t4,t5,t6,t7,encI,af,aI,Uy,a,i]
      apply ai.eq<;>intro y
      .simp(disch:=omega)only[↓wr,seval,wq,t1,t3,t4,t5,t6,t7]
       refine⟨c,by omega,by omega,t1,t3,t4,b,t5,?_,rfl⟩
       rw[d,Uz ⟨h1,q,y⟩];rfl
      .simp(disch:=omega)only[↓wr,seval,wq,t1,t3,t4,t5,t6,t7]
       refine⟨c,by omega,by omega,t1,t3,t4,b,t5,?_,rfl⟩
       rw[d,Ux (λe=>y e.2.2)];exact t6
     .simp(disch:=omega)only[↓wr,seval,wq,t1,t3,t4,t5,t6,t7]
      refine⟨c,by omega,by omega,t1,t3,t4,b,t5,?_,rfl⟩
      rw[d,Ux (λe=>q e.2.1)];exact t6
    .simp(disch:=omega)only[↓wr,seval,wq,t1,t3,t4,t5,t6,t7]
     refine⟨c,by omega,by omega,t1,t3,t4,b,t5,?_,rfl⟩
     rw[d,Ux (λe=>h1 e.1)];exact t6
   .have F:c=0:=by omega
    subst F
    simp only[Vv,Int.natCast_zero] at t6
    simp(disch:=omega)only[↓wr,seval,wq,t1,t3,t4,t5,t6,t7]
    intro n G
    rw[bH]
    simp(disch:=omega)only[↓wr,seval,wq,t1,t3,t4,t5,t6,t7]
    refine eo (b.fresh G) (by simp[aF]) (by unfold aB;simp;omega) (by unfold aB;simp;omega) ?_
    intro I H' z _
    simp(disch:=omega)only[↓wr,seval,wq,t1,t3,t4,t5,t6,t7]
    refine aD hk (by omega) ⟨I,rfl,?_,t1,t3,rfl⟩
    rw[V1];simpa using z
  .simp(disch:=omega)only[↓wr,seval,wq,t1,t3,t4,t5]
   intro J C
   have:j=g.aj.length:=by omega
   subst this
   exact jf (by rw[C];exact b)
 .have hr:bV g=false:=by simpa using hr
  rw[hr]
  simp(disch:=omega)only[↓wr,seval,wq,encI,af,encS]
  refine aV.up 0 (λj T H'=>T 3=.aQ []/\T 4=.emp 1/\T 5=gi j) ⟨rfl,rfl,rfl⟩ ?_
  rintro j k T H hk ⟨t3,t4,t5⟩
  simp(disch:=omega)only[↓wr,seval,wq,jt,t3,t4,t5]
  refine ai.dec (λs=>absurd s (by simp)) (λs=>?_)
  simp(disch:=omega)only[↓wr,seval,wq,t3,t4,t5]
  intro J C
  exact .emp _
def eK (s:Int × Int):List V:=[gi s.1,gi s.2]
abbrev Cz (S:List (Int × Int)):V:=.aQ (S.map eK)
theorem s7 (s:Int × Int):∀ v∈eK s,Tree v:=by
 intro v a;simp[eK] at a
 rcases a with rfl | rfl <;> exact .val _
theorem Lo (S:List (Int × Int)):Tree (Cz S):=eM _ _ λs _ v a=>s7 s v a
theorem QG (h:aC) (s:Int × Int):dz h (.agg (eK s)) (.agg (eK s)):=.agg _ _ rfl λi hi=>by
 match i,hi with
 | 0,_=>exact .val _
 | 1,_=>exact .val _
 | n+2,h=>exact absurd h (by simp[eK])
def j9 (s:Int × Int):Prop:=(0<=s.1/\s.1<=1000)/\(0<=s.2/\s.2<=1000)
theorem Dc {a b:Int × Int} (c:j9 a) (d:j9 b):j9 (oE a b):=by unfold j9 oE at *;simp only;omega
theorem S8 {x:Int} : (if x < 1000 then x else 1000)=min 1000 x:=by omega
def qQ:SF:=⟨ae [ab [cw 2 0,cw 3 1,((some 4),.op (.alloc [(.val (.int .i64 0)),(.val (.int .i64 0))]))],ab [al 5 0 2,ak 6 5,al 7 0 3,ak 8 7,aR 9 .add 6 8,((some 10),.op (.mm false (.val (.val (.int .i64 1000))) (.tmp 9))),al 11 1 2,ak 12 11,al 13 1 3,ak 14 13,aR 15 .add 12 14,((some 16),.op (.mm false (.val (.val (.int .i64 1000))) (.tmp 15))),((some 17),.op (.build [(.val (.int .i64 0)),(.val (.int .i64 0))] [(0,1,(.tmp 10)),(1,1,(.tmp 16))])),cg 2 4 17],.ret],
 [.cell 4 (some 2)],18⟩
theorem u9:aH Tryz.prog 138 [2,3]=some qQ:=by kernel_rfl
def nM:SC :=
 ae [ae [ab [aa 8 6,aa 9 0,aM 10 9,aR 11 .lss 8 10],bX 11 (.exit 0)],.block 1 (ae [ab [aa 14 0,aa 15 6,aO 16 1 14 15,ak 17 16,aG 18 .geq 17 0],.cond (.tmp 18) (ab [aS 19 2 5,((some 20),.op (.build [(.val (.int .i64 0)),(.val (.int .i64 0))] [(1,1,(.val (.val (.int .i64 1))))])),aX 21 138 [19,20],cg 2 5 21]) (ab [aS 22 2 5,aa 23 1,aa 24 0,aa 25 6,aO 26 1 24 25,ak 27 26,((some 28),.op (.arith .sub (.val (.val (.int .i64 (-1)))) (.tmp 27))),aO 29 2 23 28,aS 30 2 29,aX 31 138 [22,30],cg 2 5 31])]),ab [aa 12 6,aG 13 .add 12 1,aa 6 13]]
def qF:SF:=⟨ae [ab [((some 4),.op (.alloc [(.val (.int .i64 0)),(.val (.int .i64 0))]))],ab [((some 7),.op (.build [(.val (.int .i64 0)),(.val (.int .i64 0))] [])),((some 5),.op (.alloc [(.val (.int .i64 0)),(.val (.int .i64 0))])),cg 2 5 7],ae [ab [aN 6 0],bY 0 nM],ab [aS 32 2 5,cg 2 4 32],.ret],
 [.cell 4 (some 2)],33⟩
theorem uH:aH Tryz.prog 75 []=some qF:=by kernel_rfl
theorem Dp (a b:Int × Int) (d:j9 a) (e:j9 b):b6 Tryz.prog 138 [.agg (eK a),.agg (eK b)] (.agg (eK (oE a b))):=by
 unfold j9 at d e
 refine b6.of (by
  intro v c;simp at c
  rcases c with rfl | rfl
  .exact bZ _ (s7 a)
  .exact bZ _ (s7 b)) ?_
 refine av.of mixed u9 ?_
 simp(disch:=omega)only[↓wr,seval,wq,qQ,eK,S8]
 intro n f _
 exact QG f (oE a b)
theorem RG {H:View} {id n:Nat} {S:List (Int × Int)} (a:H id=.arr 2 (S.map eK)) (b:n=S.length):cm H (.sl id 0 n 2) (Cz S):=by
 subst b
 exact cm.own (sz:=2) (.inr ⟨id,by simp,a⟩) λe he v a=>by
  obtain⟨x,_,rfl⟩:=U0.1 he
  exact s7 x v a
theorem RB {S:List (Int × Int)} {m:Nat} (hm:m < S.length):(S.map eK)[m]?=some (eK (j7 S m)):=by simp[j7,Uu,hm]
theorem J2 (l:List Int) (S:List (Int × Int)) (y:aL l) (A:∀ m,j9 (j7 S m)) (B:∀ x∈l,bO x/\(x < 0->-1 - x < S.length)):b6 Tryz.prog 75 [encI l,Cz S] (.agg (eK (mo S l (0,0)))):=by
 unfold aL at y
 refine b6.of (by
  intro v w;simp at w
  rcases w with rfl | rfl
  .exact bQ l
  .exact Lo S) ?_
 refine av.of mixed uH ?_
 simp(disch:=omega)only[↓wr,seval,wq,qF,encI]
 intro n o f
 try simp(disch:=omega)only[↓wr,seval,wq,encI]
 have c:n≠o:=λe=>by subst e;simp[View.set] at f
 refine aV.up l.length (λi T H'=>∃ s:Int × Int,j9 s/\mo S (l.drop i) s=mo S l (0,0)/\H' o=.arr 2 [eK s]/\(∃ z,H' n=.arr 2 [[z,z]])/\T 0=encI l/\T 1=Cz S/\T 4=.ptr n 0 0/\T 5=.ptr o 0 0/\T 6=gi i) ?_ ?_
 .exact⟨(0,0),by unfold j9;simp,rfl,by simp[View.set,eK],⟨gi 0,by simp[View.set,c]⟩,rfl,rfl,rfl,rfl,rfl⟩
 clear f
 rintro i k T H hk ⟨s,g,a,hH,⟨z,p⟩,t0,t1,t4,t5,t6⟩
 have q:=g
 unfold j9 at q
 simp(disch:=omega)only[↓wr,seval,wq,nM,t0,t1,t4,t5,t6,encI]
 apply ai.dec<;>intro C
 .have r:l[i]?=some (l[i]'(by omega)):=Uv (by omega)
  have b:l[i]'(by omega)∈l:=UC _
  rw[dW (show i < l.length by omega),mo] at a
  generalize l[i]'(by omega)=x at r b a
  obtain⟨⟨D,E⟩,t⟩:=B x b
  simp(disch:=omega)only[↓wr,seval,wq,t0,t1,t4,t5,t6,encI,Uy,r]
  apply ai.dec<;>intro u
  .rw[Uz (show 0<=x from u)] at a
   simp(disch:=omega)only[↓wr,seval,wq,t0,t1,t4,t5,t6,hH,eK]
   refine aw.pure (Dp s (0,1) g (by unfold j9;simp)).pure ?_
   have h:=Dc g (show j9 (0,1) by unfold j9;simp)
   generalize oE s (0,1)=s2 at a h
   simp(disch:=omega)only[↓wr,seval,wq,t0,t1,t4,t5,t6,hH,eK]
   refine aD hk (by omega) ⟨s2,h,a,by simp[View.set,eK],⟨z,by simp[View.set,c,p]⟩,t0,t1,t4,t5,rfl⟩
  .rw[Ux (show ¬ 0<=x from u)] at a
   have hm:bT x < S.length:=by have:=t (by omega);unfold bT;omega
   have j:=RB hm
   have d:=A (bT x)
   generalize j7 S (bT x)=s1 at a j d
   simp(disch:=omega)only[↓wr,seval,wq,t0,t1,t4,t5,t6,hH,encI,Uy,r,j,eK]
   refine aw.pure (Dp s s1 g d).pure ?_
   have h:=Dc g d
   generalize oE s s1=s2 at a h
   simp(disch:=omega)only[↓wr,seval,wq,t0,t1,t4,t5,t6,hH,eK]
   refine aD hk (by omega) ⟨s2,h,a,by simp[View.set,eK],⟨z,by simp[View.set,c,p]⟩,t0,t1,t4,t5,rfl⟩
 .simp(disch:=omega)only[↓wr,seval,wq,t0,t1,t4,t5,t6,hH,p,eK]
  rw[US (by omega),mo] at a
  intro F _
  rw[<-a]
  exact QG F s
def mZ:SC :=
 ae [ae [ab [aa 21 7,aa 22 3,aM 23 22,aR 24 .lss 21 23],bX 24 (.exit 2)],.block 3 (ae [ab [aa 27 3,aa 28 7,aO 29 1 27 28,ak 30 29,aa 31 6,aR 32 .eql 30 31],ba 32 (ab [aa 33 5,aa 34 7,((some 35),.op (.build [(.val (.int .i64 0)),(.val (.int .i64 0))] [(0,1,(.val (.val (.int .i64 1))))])),al 36 2 1,ak 37 36,aa 38 4,aa 39 7,aO 40 1 38 39,ak 41 40,aO 42 3 37 41,al 43 1 42,ak 44 43,aa 45 5,aX 46 75 [44,45],aX 47 138 [35,46],aO 48 2 33 34,cg 2 48 47])]),ab [aa 25 7,aG 26 .add 25 1,aa 7 26]]
def nC:SC :=
 ae [ae [ab [aa 15 6,aa 16 3,aM 17 16,aR 18 .leq 15 17],bX 18 (.exit 0)],.block 1 (ae [ab [aN 7 0],bY 2 mZ]),ab [aa 19 6,aG 20 .add 19 1,aa 6 20]]
def oS:SF:=⟨ae [ab [cw 1 0,bI 2 1],.region true [⟨none,[aS 8 4 1,aX 9 136 [8],aS 10 4 1,aX 11 73 [10],aa 3 9,aa 4 11]⟩],ab [aa 12 3,aM 13 12,((some 14),.op (.make 2 16 [(.val (.int .i64 0)),(.val (.int .i64 0))] (.tmp 13) (.tmp 13))),aa 5 14],ae [ab [aN 6 1],bY 0 nC],ab [aa 49 5,aa 2 49],.ret],
 [.tmp 2],50⟩
theorem tP:aH Tryz.prog 76 [1]=some oS:=by kernel_rfl
theorem Gf {S:List (Int × Int)} (a:∀ m,j9 (j7 S m)):∀ (l:List Int) (s:Int × Int),j9 s->j9 (mo S l s)
 | [],_,h=>h
 | x :: l,s,h=>Gf a l _ (Dc h (by
  split; · unfold j9;simp
  .exact a _))
def lz (g:ag):List (Int × Int):=(ao g).map ke
theorem zi:ke iK=(0,0):=by decide
theorem Ae (g:ag) (m:Nat):j7 (lz g) m=ke (bk (ao g) m):=by
 simp only[lz,j7,bk,Uu,Uy]
 cases (ao g)[m]? <;> rfl
theorem Nr (g:ag) (m:Nat):j9 (ke (bk (ao g) m)):=by
 have h:ed (bk (ao g) m):=ja g _ m
 unfold ed at h
 unfold j9 ke;simp only;omega
def iP (g:ag) (j i:Nat) (S:List (Int × Int)):Prop:=S.length=g.aj.length/\∀ m,j7 S m=if (bk (ao g) m).bu<=j∨((bk (ao g) m).bu=j+1/\m < i) then ke (bk (ao g) m) else (0,0)
theorem iP.ok {g:ag} {j i:Nat} {S:List (Int × Int)} (h:iP g j i S) (m:Nat):j9 (j7 S m):=by
 rw[h.2 m];split
 .exact Nr g m
 .unfold j9;simp
theorem Q2 {S:List (Int × Int)} {i m:Nat} {v:Int × Int} (hm:m < S.length):j7 (S.set i v) m=if i=m then v else j7 S m:=by
 simp only[j7,Uu,VA]
 split
 .rename_i e;subst e;simp[hm]
 .rfl
theorem iP.next {g:ag} {j i:Nat} {S:List (Int × Int)} (h:iP g j i S) (hi:(bk (ao g) i).bu≠(j:Int)+1):iP g j (i+1) S:=⟨h.1,λm=>by
 rw[h.2 m]
 by_cases e:m=i
 .subst e
  by_cases h1:(bk (ao g) m).bu<=j
  .rw[Uz (.inl h1),Uz (.inl h1)]
  .rw[Ux (by omega),Ux (by omega)]
 .congr 1
  simp only[eq_iff_iff]
  constructor <;> rintro (h1 | h1) <;> first | exact .inl h1 | exact .inr ⟨h1.1,by omega⟩⟩
theorem iP.put {g:ag} {j i:Nat} {S:List (Int × Int)} (h:iP g j i S) (hi:(bk (ao g) i).bu=(j:Int)+1) (a:i < g.aj.length):iP g j (i+1) (S.set i (ke (bk (ao g) i))):=⟨by simp[h.1],λm=>by
 by_cases hm:m < S.length
 .rw[Q2 hm]
  by_cases e:i=m
  .subst e;rw[Uz rfl,Uz (.inr ⟨hi,by omega⟩)]
  .rw[Ux e,h.2 m]
   congr 1
   simp only[eq_iff_iff]
   constructor <;> rintro (h1 | h1) <;> first | exact .inl h1 | exact .inr ⟨h1.1,by omega⟩
 .have:bk (ao g) m=iK:=uv (by rw[fL,<-h.1];omega)
  have e:j7 (S.set i (ke (bk (ao g) i))) m=(0,0):=by
   simp only[j7,Uu];rw[U6 (by simp;omega)];rfl
  rw[e,this]
  split <;> simp[zi]⟩
theorem iP.T7 {g:ag} {j:Nat} {S:List (Int × Int)} (h:iP g j g.aj.length S):iP g (j+1) 0 S:=⟨h.1,λm=>by
 rw[h.2 m]
 by_cases hm:m < g.aj.length
 .congr 1
  simp only[eq_iff_iff]
  push_cast
  constructor
  .rintro (h1 | h1) <;> left <;> omega
  .rintro (h1 | h1)
   .omega
   .omega
 .have:bk (ao g) m=iK:=uv (by rw[fL];omega)
  rw[this];split <;> split <;> simp[zi]⟩
theorem iP.start (g:ag):iP g 0 0 (List.replicate g.aj.length (0,0)):=⟨by simp,λm=>by
 have e:j7 (List.replicate g.aj.length (0,0)) m=(0,0):=by
  simp only[j7,Uu,VP]
  split <;> rfl
 rw[e]
 split
 .rename_i h
  by_cases hk:bz (ao g) m
  .have:=(kc hk).1;omega
  .rw[vJ hk];simp[zi]
 .rfl⟩
theorem iP.done {g:ag} {S:List (Int × Int)} (h:iP g g.aj.length 0 S):S=lz g:=by
 apply List.ext_getElem (by simp[h.1,lz,fL])
 intro m h1 a
 have e:S[m]=j7 S m:=by simp[j7,Uu,h1]
 have b:(lz g)[m]=j7 (lz g) m:=by simp[j7,Uu,a]
 rw[e,b,h.2 m,Ae]
 by_cases hk:bz (ao g) m
 .rw[Uz (.inl (kc hk).2)]
 .rw[vJ hk];split <;> simp[zi]
theorem Qi (g:ag) (B:g.Ok) (hr:bV g=true):b6 Tryz.prog 76 [.agg (af g)] (Cz (lz g)):=by
 refine b6.of (dO g) ?_
 refine av.of mixed tP ?_
 simp(disch:=omega)only[↓wr,seval,wq,oS,af,encS]
 refine aw.pure (yW g B).pure ?_
 simp(disch:=omega)only[↓wr,seval,wq]
 refine aw.pure (A3 g B).pure ?_
 have A:=b4 hr
 have W:=A.lp
 have z2:=A.aj
 have z3:=A.rules
 rw[Uz hr,Uz hr]
 have a:=fL g
 simp(disch:=omega)only[↓wr,seval,wq,encI,af,encS,a,UB]
 refine⟨⟨by omega,by unfold aB;omega,by unfold aB;omega⟩,λh=>by omega,?_⟩
 intro _ b
 try simp(disch:=omega)only[↓wr,seval,wq]
 refine aV.up g.aj.length (λj T H'=>∃ S,iP g j 0 S/\H' b=.arr 2 (S.map eK)/\T 1=.aJ (af g) 0/\T 3=encI (fh (ao g))/\T 4=encI (gQ g)/\T 5=.sl b 0 g.aj.length 2/\T 6=gi ((j:Int)+1)) ?_ ?_
 .refine⟨_,.start g,?_,rfl,rfl,rfl,rfl,rfl⟩
  simp[View.set,eK]
 rintro j k T H hk ⟨S,c,d,t1,t3,t4,t5,t6⟩
 simp(disch:=omega)only[↓wr,seval,wq,nC,t1,t3,t4,t5,t6,encI,a,UB]
 apply ai.dec<;>intro L
 .simp(disch:=omega)only[↓wr,seval,wq,t1,t3,t4,t5,t6,encI,a,UB]
  refine aV.up g.aj.length (λi T H'=>∃ S,iP g j i S/\H' b=.arr 2 (S.map eK)/\T 1=.aJ (af g) 0/\T 3=encI (fh (ao g))/\T 4=encI (gQ g)/\T 5=.sl b 0 g.aj.length 2/\T 6=gi ((j:Int)+1)/\T 7=gi i) ⟨S,c,d,t1,t3,t4,t5,t6,rfl⟩ ?_
  clear t1 t3 t4 t5 t6 c d
  rintro i q T H I ⟨S,c,d,t1,t3,t4,t5,t6,t7⟩
  simp(disch:=omega)only[↓wr,seval,wq,mZ,t1,t3,t4,t5,t6,t7,encI,a,UB]
  apply ai.dec<;>intro C
  .have p:=y3 (h:=fh (ao g)) (m:=i) (by simp;omega)
   rw[ll] at p
   simp(disch:=omega)only[↓wr,seval,wq,t1,t3,t4,t5,t6,t7,encI,Uy,p]
   apply ai.eq<;>intro hi
   .have s:bz (ao g) i:=by
     by_cases h:bz (ao g) i
     .exact h
     .rw[vJ h] at hi;simp[iK] at hi;omega
    obtain⟨D,r,f,M,N,E,_⟩:=pW s
    have t:(bk (ao g) i).ax=D:=by rw[E];rfl
    have u:=y3 (h:=gQ g) (m:=i) (by simp[gQ,a];omega)
    have F:fD (gQ g) i=D:=by
     rw[<-t];simp[gQ,fD,bk,Uu,a,show i < g.aj.length by omega]
    rw[F] at u
    have l:=UL f
    have O:D < g.rules.length:=(UI.1 f).1
    have v:=B.ax r l
    simp(disch:=omega)only[↓wr,seval,wq,t1,t3,t4,t5,t6,t7,encI,af,aI,Uy,u,f]
    refine aw.j0 (J2 r.right S v.2.2.1 c.ok λx J=>⟨v.2.2.2 x J,λP=>by rw[c.1];exact A.neg l J P⟩) (by kernel_rfl) ⟨cm.tree (bQ r.right),RG d c.1.symm,trivial⟩ ?_
    have w:=Oy (S:=S) s f t λk Q R=>by rw[c.2 k,Uz (.inl (by omega))]
    have y:j9 (mo S r.right (0,0)):=Gf c.ok _ _ (by unfold j9;simp)
    generalize mo S r.right (0,0)=z at w y
    simp(disch:=omega)only[↓wr,seval,wq,t1,t3,t4,t5,t6,t7]
    refine aw.pure (Dp (1,0) z (by unfold j9;simp) y).pure ?_
    rw[w]
    simp(disch:=omega)only[↓wr,seval,wq,t1,t3,t4,t5,t6,t7,d,eK]
    have U:=c.1
    have G:(S.map eK).getD i []=eK (j7 S i):=by simp[j7,Uu,show i < S.length by omega]
    refine⟨by omega,by omega,aD I (by omega) ⟨_,c.put hi (by omega),?_,t1,t3,t4,t5,t6,rfl⟩⟩
    simp only[View.set,if_true]
    rw[List.map_set,G];simp only[eK,List.drop_succ_cons,List.drop_nil,Vv]
   .simp(disch:=omega)only[↓wr,seval,wq,t1,t3,t4,t5,t6,t7]
    exact aD I (by omega) ⟨S,c.next hi,d,t1,t3,t4,t5,t6,rfl⟩
  .simp(disch:=omega)only[↓wr,seval,wq,t1,t3,t4,t5,t6,t7]
   have o:i=g.aj.length:=by omega
   subst o
   exact aD hk (by omega) ⟨S,c.T7,d,t1,t3,t4,t5,rfl⟩
 .simp(disch:=omega)only[↓wr,seval,wq,t1,t3,t4,t5,t6]
  have o:j=g.aj.length:=by omega
  subst o
  rw[c.done] at d
  intro X V
  exact dz.own (sz:=2) (.inr ⟨b,by simp[lz,a],by rw[V];exact d⟩) rfl (λi _=>rfl) (λi j hi K=>by
   simp only[UB] at hi
   have e:((lz g).map eK).getD i []=eK (lz g)[i]:=by simp[Uu,hi]
   rw[e] at K ⊢
   match j,K with
   | 0,_=>exact .val _
   | 1,_=>exact .val _
   | n+2,h=>exact absurd h (by simp[eK]))
def nY:SC :=
 ae [ae [ab [aa 9 8,aa 10 1,aM 11 10,aR 12 .lss 9 11],bX 12 (.exit 0)],.block 1 (ae [ab [aa 15 1,aa 16 8,aO 17 1 15 16,ak 18 17,aG 19 .geq 18 0],.cond (.tmp 19) (ab [aa 20 7,aa 21 1,aa 22 8,aO 23 1 21 22,ak 24 23,((some 25),.op (.bP 1 1 [(.val (.int .i64 0))] [(0,(.tmp 24))])),fk 26 1 8 20 25,aa 7 26]) (ab [aa 27 7,aS 28 4 3,al 29 2 3,ak 30 29,aa 31 2,aa 32 1,aa 33 8,aO 34 1 32 33,ak 35 34,((some 36),.op (.arith .sub (.val (.val (.int .i64 (-1)))) (.tmp 35))),aO 37 1 31 36,ak 38 37,aO 39 3 30 38,al 40 1 39,ak 41 40,aa 42 2,aX 43 77 [28,41,42],fk 44 1 8 27 43,aa 7 44])]),ab [aa 13 8,aG 14 .add 13 1,aa 8 14]]
def qL:SF:=⟨ae [ab [cw 3 0,bI 6 1],ab [bI 7 1],ae [ab [aN 8 0],bY 0 nY],ab [aa 45 7,aa 6 45],.ret],
 [.tmp 6],46⟩
theorem uI:aH Tryz.prog 77 [3]=some qL:=by kernel_rfl
theorem Cr {g:ag} {m:Nat} (h:m < g.aj.length):(gQ g)[m]?=some (bk (ao g) m).ax:=by
 have:m < (ao g).length:=by rw[fL];exact h
 simp[gQ,bk,Uu,this]
theorem Nw (g:ag) (f:Nat) (l:List Int) (i:Nat):(eF g (ao g) f (l.take i)).length<=(eF g (ao g) f l).length:=by
 have:=kX g (ao g) f (l.take i) (l.drop i)
 rw[List.take_append_drop] at this
 rw[this];simp
theorem DV (g:ag) (f:Nat) (l:List Int) (i:Nat):(dF g (ao g) f (l.take i)).length<=(dF g (ao g) f l).length:=by
 have:=gA g (ao g) f (l.take i) (l.drop i)
 rw[List.take_append_drop] at this
 rw[this];simp
theorem M9 (g:ag) (L:g.Ok) (M:g.cX):∀ (f:Nat) (l:List Int),aL l->(∀ x∈l,bO x/\(x < 0->-1 - x < g.aj.length))->Ba (ao g) f l->(dF g (ao g) f l).length<=100000->∀ H:View,
  av Tryz.prog 77 [.agg (af g),encI l,encI (gQ g)] H λr H'=>aK H' r 1 (bt (dF g (ao g) f l))/\b3 H H' r:=by
 intro f
 induction f using Nat.strongRecOn with
 | _ f N =>
  intro l O z hu hb P
  refine av.of mixed uI ?_
  unfold aL at O
  simp(disch:=omega)only[↓wr,seval,wq,qL,encI,af,encS]
  refine aV.up l.length (λi T H'=>∃ u,T 7=u/\aK H' u 1 (bt (dF g (ao g) f (l.take i)))/\b3 P H' u/\T 1=encI l/\T 2=encI (gQ g)/\T 3=.aJ (af g) 0/\T 8=gi i) ⟨.emp 1,rfl,by rw[List.take_zero,tn];exact .nil,.emp,rfl,rfl,rfl,rfl⟩ ?_
  rintro i k T H hk ⟨u,t7,w,e,t1,t2,t3,t8⟩
  simp(disch:=omega)only[↓wr,seval,wq,nY,t1,t2,t3,t7,t8,encI]
  apply ai.dec<;>intro Q
  .have b:l[i]?=some (l[i]'(by omega)):=Uv (by omega)
   have a:l[i]'(by omega)∈l:=UC _
   have d:l.take (i+1)=l.take i ++ [l[i]'(by omega)]:=by rw[UW,b];rfl
   have c:=DV g f l (i+1)
   generalize l[i]'(by omega)=x at b a d
   obtain⟨⟨R,S⟩,A⟩:=z x a
   rw[d,gA] at c
   simp(disch:=omega)only[↓wr,seval,wq,t1,t2,t3,t7,t8,encI,Uy,b]
   apply ai.dec<;>intro B
   .rw[lf (show 0<=x from B)] at c
    simp only[UY,UE,UU] at c
    simp(disch:=omega)only[↓wr,seval,wq,t1,t2,t3,t7,t8,encI,Uy,b]
    intro n h
    rw[bH]
    simp(disch:=omega)only[↓wr,seval,wq,t1,t2,t3,t7,t8]
    refine eo (w.fresh h) (by simp[aF]) (by unfold aB;simp;omega) (by unfold aB;simp;omega) ?_
    intro U H1 C D
    simp(disch:=omega)only[↓wr,seval,wq,t1,t2,t3,t7,t8]
    refine aD hk (by omega) ⟨U,rfl,?_,(e.put h).step D,t1,t2,t3,rfl⟩
    rw[d,gA,lf (show 0<=x from B)]
    simpa using C
   .obtain⟨f,rfl⟩:∃ V,f=V+1:=by
     cases f with
     | zero=>have:=Da hu x a;omega
     | succ f=>exact⟨f,rfl⟩
    obtain⟨E,J⟩:=hu x a (by omega)
    obtain⟨W,r,hi,hr,j,F,_⟩:=vK (f:=f) E (by push_cast at J;exact J)
    have o:=Cr (g:=g) (m:=bT x) (by have:=A (by omega);unfold bT;omega)
    have p:=UL hr
    have X:W < g.rules.length:=(UI.1 hr).1
    have q:=L.ax r p
    rw[kH (by omega),j] at c
    rw[hi] at o
    simp only[UY] at c
    simp(disch:=omega)only[↓wr,seval,wq,t1,t2,t3,t7,t8,encI,af,aI,encS,Uy,b,o,hr]
    have s:=N f (by omega) r.right q.2.2.1 (λy K=>⟨q.2.2.2 y K,λz=>M.neg p K z⟩) F (by omega) H
    simp only[af,encI,encS] at s
    refine aw.dL (s.mono ?_)
    rintro v H2 ⟨Y,t⟩
    obtain⟨rd,he⟩:=Y.elems
    simp(disch:=omega)only[↓wr,seval,wq,t1,t2,t3,t7,t8,he]
    refine eo (w.MK t) (by simp[VN,aF]) (by unfold aB;simp;omega) (by unfold aB;simp;omega) ?_
    intro Z H3 G I
    simp(disch:=omega)only[↓wr,seval,wq,t1,t2,t3,t7,t8]
    refine aD hk (by omega) ⟨Z,rfl,?_,(e.call t).step I,t1,t2,t3,rfl⟩
    rw[d,gA,kH (by omega),j]
    simpa using G
  .simp(disch:=omega)only[↓wr,seval,wq,t1,t2,t3,t7,t8]
   rw[UK (by omega)] at w
   exact⟨w,e⟩
end Gv
