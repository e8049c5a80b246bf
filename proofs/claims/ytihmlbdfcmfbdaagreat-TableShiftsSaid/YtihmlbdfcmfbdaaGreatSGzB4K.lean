/-
  Part 11 of the proof: what the machine does and what the functions answer.
  Conditions: those that each lemma names.
-/
import Derived.Test.YtihmlbdfcmfbdaaGreatSGzB4J
set_option linter.unusedSimpArgs false
set_option linter.unusedVariables false
set_option maxRecDepth 100000
set_option maxHeartbeats 20000000
namespace Gv
open Go Go.Proofs
def gK:SC :=
 ae [ab [aV 14 .lss 13 12],bY 14 (.exit 0),.block 1 (ae [ab [aa 15 13,aa 5 15],ab [aa 16 0,aa 17 5,aQ 18 3 16 17,bg 19 3 18,aa 20 1,aa 21 5,aQ 22 3 20 21,bg 23 3 22,((some 24),.op (.old (.binOp .neq 129 (.tmp 19) (.tmp 23) 129) 4))],bf 24 (ae [ab [bu 4 false],.ret])]),ab [aH 25 .add 13 1,aa 13 25]]
def ig:SF:=⟨ae [ab [bu 4 false],ae [ab [aa 6 0,aN 7 6,aa 8 1,aN 9 8,aV 10 .neq 7 9],bf 10 (ae [ab [bu 4 false],.ret])],ae [ab [aa 11 0,aN 12 11,aS 13 0],b6 0 gK],ab [bu 4 true],.ret],
 [.tmp 4],26⟩
theorem kN:aR Tryz.prog 162 []=some ig:=by kernel_rfl
def iK:SC :=
 ae [ab [aV 14 .lss 13 12],bY 14 (.exit 0),.block 1 (ae [ab [aa 15 13,aa 5 15],ab [aa 16 0,aa 17 5,aQ 18 1 16 17,aj 19 18,aa 20 1,aa 21 5,aQ 22 1 20 21,aj 23 22,((some 24),.op (.yc .neq (.tmp 19) (.tmp 23)))],bf 24 (ae [ab [bu 4 false],.ret])]),ab [aH 25 .add 13 1,aa 13 25]]
def jf:SF:=⟨ae [ab [bu 4 false],ae [ab [aa 6 0,aN 7 6,aa 8 1,aN 9 8,aV 10 .neq 7 9],bf 10 (ae [ab [bu 4 false],.ret])],ae [ab [aa 11 0,aN 12 11,aS 13 0],b6 0 iK],ab [bu 4 true],.ret],
 [.tmp 4],26⟩
theorem mC:aR Tryz.prog 163 []=some jf:=by kernel_rfl
def j4:SC :=
 ae [ab [aV 14 .lss 13 12],bY 14 (.exit 0),.block 1 (ae [ab [aa 15 13,aa 5 15],ab [aa 16 0,aa 17 5,aQ 18 1 16 17,aj 19 18,aa 20 1,aa 21 5,aQ 22 1 20 21,aj 23 22,aV 24 .neq 19 23],bf 24 (ae [ab [bu 4 false],.ret])]),ab [aH 25 .add 13 1,aa 13 25]]
def kV:SF:=⟨ae [ab [bu 4 false],ae [ab [aa 6 0,aN 7 6,aa 8 1,aN 9 8,aV 10 .neq 7 9],bf 10 (ae [ab [bu 4 false],.ret])],ae [ab [aa 11 0,aN 12 11,aS 13 0],b6 0 j4],ab [bu 4 true],.ret],
 [.tmp 4],26⟩
theorem qf:aR Tryz.prog 198 []=some kV:=by kernel_rfl
def Bo:SF:=⟨ae [ab [cI 2 0,cI 3 1,bu 4 false],.region false [⟨none,[ao 5 0 2,aj 6 5,ao 7 0 3,aj 8 7,aV 9 .eql 6 8,aa 10 9]⟩,⟨(some (10,true)),[ao 11 2 2,aj 12 11,ao 13 2 3,aj 14 13,aV 15 .eql 12 14]⟩,⟨none,[eJ 16 10 15,aa 17 16]⟩,⟨(some (17,true)),[ao 18 1 2,aj 19 18,ao 20 1 3,aj 21 20,bz 22 198 [19,21]]⟩,⟨none,[eJ 23 17 22,aa 4 23]⟩],.ret],
 [.tmp 4],24⟩
theorem Eu:aR Tryz.prog 165 [2,3]=some Bo:=by kernel_rfl
def dC:SC :=
 ae [ab [aV 18 .lss 17 16],bY 18 (.exit 0),.block 1 (ae [ab [aa 19 17,aQ 20 3 15 17,bg 21 3 20,((some 8),.op (.alloc [(.val (.int .i64 0)),(.emp 1),(.val (.int .i64 0))])),aa 7 19,bU 3 8 21],ab [aa 22 1,aa 23 7,aQ 24 3 22 23,bg 25 3 24,((some 9),.op (.alloc [(.val (.int .i64 0)),(.emp 1),(.val (.int .i64 0))])),bU 3 9 25],ab [aa 26 2,bg 27 3 8,bg 28 3 9,((some 29),.call (.tmp 26) [(.tmp 27),(.tmp 28)]),de 30 29],bf 30 (ae [ab [bu 6 false],.ret])]),ab [aH 31 .add 17 1,aa 17 31]]
def dI:SF:=⟨ae [ab [bu 6 false],ae [ab [aa 10 0,aN 11 10,aa 12 1,aN 13 12,aV 14 .neq 11 13],bf 14 (ae [ab [bu 6 false],.ret])],ae [ab [aa 15 0,aN 16 15,aS 17 0],b6 0 dC],ab [bu 6 true],.ret],
 [.tmp 6],32⟩
theorem fP:aR Tryz.prog 164 []=some dI:=by kernel_rfl
def Ce:SF:=⟨ae [ab [cI 2 0,cI 3 1,bu 4 false],.region false [⟨none,[ao 5 0 2,aj 6 5,ao 7 0 3,aj 8 7,bz 9 162 [6,8],aa 10 9]⟩,⟨(some (10,true)),[ao 11 1 2,aj 12 11,ao 13 1 3,aj 14 13,bz 15 163 [12,14]]⟩,⟨none,[eJ 16 10 15,aa 17 16]⟩,⟨(some (17,true)),[ao 18 2 2,aj 19 18,ao 20 2 3,aj 21 20,r7 22 164 [(.tmp 19),(.tmp 21),(.val (.fn 165 [] []))]]⟩,⟨none,[eJ 23 17 22,aa 24 23]⟩,⟨(some (24,true)),[ao 25 3 2,aj 26 25,ao 27 3 3,aj 28 27,aV 29 .eql 26 28]⟩,⟨none,[eJ 30 24 29,aa 4 30]⟩],.ret],
 [.tmp 4],31⟩
theorem GF:aR Tryz.prog 110 [2,3]=some Ce:=by kernel_rfl
theorem P1 {α:Type} {f g:α→List V} {a b:List α} (d:∀ x,∀ v∈f x,Tree v) (e:∀ x,∀ v∈g x,Tree v):∀ v∈[V.aE (a.map f),V.aE (b.map g)],Tree v:=by
 intro v c; simp at c
 rcases c with rfl | rfl
 ·exact eN _ _ fun x _=>d x
 ·exact eN _ _ fun x _=>e x
theorem Pc (a b:List Term) (l:aL a) (H:View):aw Tryz.prog 162 [.aE (a.map bW),.aE (b.map bW)] H fun r _=>r=gb (decide (a=b)):=by
 refine aw.of mixed kN ?_
 unfold aL at l
 simp (disch:=omega)only[↓wr,seval,wq,ig]
 apply ah.ne<;>intro h
 ·simp (disch:=omega)only[↓wr,seval,wq]
  rw[decide_eq_false (tL (by omega))]
 ·simp (disch:=omega)only[↓wr,seval,wq]
  refine aU.up a.length (fun i T _=>a.take i=b.take i∧T 0=.aE (a.map bW)∧T 1=.aE (b.map bW)∧T 12=gi a.length∧T 13=gi i) ⟨by simp,rfl,rfl,rfl,rfl⟩ ?_
  rintro i k T H hk ⟨hi,c,h1,d,f⟩
  simp (disch:=omega)only[↓wr,seval,wq,gK,c,h1,d,f]
  apply ah.dec<;>intro m
  ·have g:a[i]?=some (a[i]'(by omega)):=Xc (by omega)
   have j:b[i]?=some (b[i]'(by omega)):=Xc (by omega)
   generalize a[i]'(by omega)=x at g
   generalize b[i]'(by omega)=y at j
   simp (disch:=omega)only[↓wr,seval,wq,c,h1,d,f,Xf,g,j,bW]
   refine jB (xs:=#[.string x.name,.int .i64 x.level,.int .i64 x.assoc]) (ys:=#[.string y.name,.int .i64 y.level,.int .i64 y.assoc]) Tryz.underlying129 (by kernel_rfl) (by kernel_rfl) ?_ ?_ (Bp x y) (.inr ⟨rfl,rfl⟩) ?_
   ·rfl
   ·rfl
   rw[LF]
   simp (disch:=omega)only[↓wr,seval,wq,c,h1,d,f]
   apply ah.split<;>intro e
   ·simp (disch:=omega)only[↓wr,seval,wq,c,h1,d,f]
    exact aF hk (by omega) ⟨qt g j hi (by simpa using e),c,h1,d,rfl⟩
   ·simp (disch:=omega)only[↓wr,seval,wq,c,h1,d,f]
    rw[decide_eq_false (xz g j (by simpa using e))]
  ·simp (disch:=omega)only[↓wr,seval,wq,c,h1,d,f]
   rw[decide_eq_true (tM (by omega) (by omega) hi)]
theorem Qc (a b:List ByteArray) (l:aL a) (H:View):aw Tryz.prog 163 [encS a,encS b] H fun r _=>r=gb (decide (a=b)):=by
 refine aw.of mixed mC ?_
 unfold aL at l
 simp (disch:=omega)only[↓wr,seval,wq,jf,encS]
 apply ah.ne<;>intro h
 ·simp (disch:=omega)only[↓wr,seval,wq]
  rw[decide_eq_false (tL (by omega))]
 ·simp (disch:=omega)only[↓wr,seval,wq]
  refine aU.up a.length (fun i T _=>a.take i=b.take i∧T 0=encS a∧T 1=encS b∧T 12=gi a.length∧T 13=gi i) ⟨by simp,rfl,rfl,rfl,rfl⟩ ?_
  rintro i k T H hk ⟨hi,c,h1,d,f⟩
  simp (disch:=omega)only[↓wr,seval,wq,iK,c,h1,d,f,encS]
  apply ah.dec<;>intro m
  ·have g:a[i]?=some (a[i]'(by omega)):=Xc (by omega)
   have j:b[i]?=some (b[i]'(by omega)):=Xc (by omega)
   generalize a[i]'(by omega)=x at g
   generalize b[i]'(by omega)=y at j
   simp (disch:=omega)only[↓wr,seval,wq,c,h1,d,f,encS,Xf,g,j,FY]
   apply ah.split<;>intro e
   ·simp (disch:=omega)only[↓wr,seval,wq,c,h1,d,f]
    exact aF hk (by omega) ⟨qt g j hi (by simpa using e),c,h1,d,rfl⟩
   ·simp (disch:=omega)only[↓wr,seval,wq,c,h1,d,f]
    rw[decide_eq_false (xz g j (by simpa using e))]
  ·simp (disch:=omega)only[↓wr,seval,wq,c,h1,d,f]
   rw[decide_eq_true (tM (by omega) (by omega) hi)]
theorem QA (a b:List Int) (l:aL a) (H:View):aw Tryz.prog 198 [encI a,encI b] H fun r _=>r=gb (decide (a=b)):=by
 refine aw.of mixed qf ?_
 unfold aL at l
 simp (disch:=omega)only[↓wr,seval,wq,kV,encI]
 apply ah.ne<;>intro h
 ·simp (disch:=omega)only[↓wr,seval,wq]
  rw[decide_eq_false (tL (by omega))]
 ·simp (disch:=omega)only[↓wr,seval,wq]
  refine aU.up a.length (fun i T _=>a.take i=b.take i∧T 0=encI a∧T 1=encI b∧T 12=gi a.length∧T 13=gi i) ⟨by simp,rfl,rfl,rfl,rfl⟩ ?_
  rintro i k T H hk ⟨hi,c,h1,d,f⟩
  simp (disch:=omega)only[↓wr,seval,wq,j4,c,h1,d,f,encI]
  apply ah.dec<;>intro m
  ·have g:a[i]?=some (a[i]'(by omega)):=Xc (by omega)
   have j:b[i]?=some (b[i]'(by omega)):=Xc (by omega)
   generalize a[i]'(by omega)=x at g
   generalize b[i]'(by omega)=y at j
   simp (disch:=omega)only[↓wr,seval,wq,c,h1,d,f,encI,Xf,g,j]
   apply ah.ne<;>intro e
   ·simp (disch:=omega)only[↓wr,seval,wq,c,h1,d,f]
    rw[decide_eq_false (xz g j e)]
   ·simp (disch:=omega)only[↓wr,seval,wq,c,h1,d,f]
    exact aF hk (by omega) ⟨qt g j hi e,c,h1,d,rfl⟩
  ·simp (disch:=omega)only[↓wr,seval,wq,c,h1,d,f]
   rw[decide_eq_true (tM (by omega) (by omega) hi)]
theorem N7 (a b:List Term) (c:aL a):aA Tryz.prog 162 [.aE (a.map bW),.aE (b.map bW)] (gb (decide (a=b))):=aA.val (P1 uC uC) (Pc a b c)
theorem PX (a b:List ByteArray) (d:aL a):aA Tryz.prog 163 [encS a,encS b] (gb (decide (a=b))):=aA.val (by
 intro v c; simp at c
 rcases c with rfl | rfl <;> exact ze _) (Qc a b d)
theorem PO (a b:List Int) (d:aL a):aA Tryz.prog 198 [encI a,encI b] (gb (decide (a=b))):=aA.val (by
 intro v c; simp at c
 rcases c with rfl | rfl <;> exact gp _) (QA a b d)
theorem Ru (x y:aW) (b:aL x.right):aA Tryz.prog 165 [.agg (aP x),.agg (aP y)] (gb (decide (x=y))):=by
 refine aA.val (by
  intro v a; simp at a
  rcases a with rfl | rfl <;> exact cq _ (ia _)) fun H=>?_
 rw[QS]
 refine aw.of mixed Eu ?_
 simp (disch:=omega)only[↓wr,seval,wq,Bo,aP,encI]
 repeat' (first | (refine ah.dec (fun _=>?_) (fun _=>?_)) | (refine ah.eq (fun _=>?_) (fun _=>?_)) | (refine ah.ne (fun _=>?_) (fun _=>?_)) | (refine ah.split (fun _=>?_) (fun _=>?_)) | (refine ay.pure (PO x.right y.right b) ?_) | (simp (disch:=omega)only[↓wr,seval,wq,aP]))
 all_goals simp[*]
theorem IS (a b:List aW) (s:aL a) (hr:∀ r∈a,aL r.right) (H:View):aw Tryz.prog 164 [.aE (a.map aP),.aE (b.map aP),.fn 165 [] []] H fun r _=>r=gb (decide (a=b)):=by
 refine aw.of mixed fP ?_
 unfold aL at s
 simp (disch:=omega)only[↓wr,seval,wq,dI]
 apply ah.ne<;>intro h
 ·simp (disch:=omega)only[↓wr,seval,wq]
  rw[decide_eq_false (tL (by omega))]
 ·simp (disch:=omega)only[↓wr,seval,wq]
  refine aU.up a.length (fun i T _=>a.take i=b.take i∧T 15=.aE (a.map aP)∧T 1=.aE (b.map aP)∧T 2=.fn 165 [] []∧T 16=gi a.length∧T 17=gi i) ⟨by simp,rfl,rfl,rfl,rfl,rfl⟩ ?_
  rintro i k T H hk ⟨hi,c,h1,d,f,g⟩
  simp (disch:=omega)only[↓wr,seval,wq,dC,c,h1,d,f,g]
  apply ah.dec<;>intro t
  ·have j:a[i]?=some (a[i]'(by omega)):=Xc (by omega)
   have l:b[i]?=some (b[i]'(by omega)):=Xc (by omega)
   have hm:a[i]'(by omega)∈a:=Xm _
   generalize a[i]'(by omega)=x at j hm
   generalize b[i]'(by omega)=y at l
   have p:=hr x hm
   simp (disch:=omega)only[↓wr,seval,wq,c,h1,d,f,g,Xf,j,l,aP,encI]
   intro n u
   try simp (disch:=omega)only[↓wr,seval,wq,c,h1,d,f,g,Xf,j,l,aP,encI]
   intro m q
   have o:=(cO q cJ).1
   try simp (disch:=omega)only[↓wr,seval,wq,c,h1,d,f,g,Xf,j,l,aP,encI,o,o.symm]
   refine ay.pure (Ru x y p) ?_
   simp (disch:=omega)only[↓wr,seval,wq,c,h1,d,f,g]
   apply ah.split<;>intro e
   ·simp (disch:=omega)only[↓wr,seval,wq,c,h1,d,f,g]
    exact aF hk (by omega) ⟨qt j l hi (by simpa using e),c,h1,d,f,rfl⟩
   ·simp (disch:=omega)only[↓wr,seval,wq,c,h1,d,f,g]
    rw[decide_eq_false (xz j l (by simpa using e))]
  ·simp (disch:=omega)only[↓wr,seval,wq,c,h1,d,f,g]
   rw[decide_eq_true (tM (by omega) (by omega) hi)]
theorem HL (a b:List aW) (d:aL a) (hr:∀ r∈a,aL r.right):aA Tryz.prog 164 [.aE (a.map aP),.aE (b.map aP),.fn 165 [] []] (gb (decide (a=b))):=aA.val (by
 intro v c; simp at c
 rcases c with rfl | rfl | rfl
 ·exact eN _ _ fun x _=>ia x
 ·exact eN _ _ fun x _=>ia x
 ·exact EO (by simp) (by simp)) (IS a b d hr)
theorem Q1 (g k:ag) (a:g.Ok):aA Tryz.prog 110 [.agg (ai g),.agg (ai k)] (gb (decide (g=k))):=by
 refine aA.val (FZ g k) fun H=>?_
 rw[Jp]
 refine aw.of mixed GF ?_
 simp (disch:=omega)only[↓wr,seval,wq,Ce,ai,encS]
 repeat' (first | (refine ah.dec (fun _=>?_) (fun _=>?_)) | (refine ah.eq (fun _=>?_) (fun _=>?_)) | (refine ah.ne (fun _=>?_) (fun _=>?_)) | (refine ah.split (fun _=>?_) (fun _=>?_)) | (refine ay.pure (N7 g.af k.af a.af) ?_) | (refine ay.pure (PX g.ak k.ak a.ak) ?_) | (refine ay.pure (HL g.rules k.rules a.rules (fun r hr=>(a.ax r hr).2.2.1)) ?_) | (simp (disch:=omega)only[↓wr,seval,wq,ai,encS]))
 all_goals simp_all [TE]
def FL:SF:=⟨ae [ab [cI 1 0,bu 2 false],ab [bg 7 4 1,bz 8 109 [7],aa 6 8,fI 9 0 6,fI 10 1 6,fI 11 2 6,((some 3),.op (.alloc [(.emp 1),(.emp 1),(.emp 1),(.val (.int .i64 0))])),bU 4 3 9,aa 4 10,aa 5 11],.region false [⟨none,[aa 12 5,aH 13 .eql 12 0,aa 14 13]⟩,⟨(some (14,true)),[bg 15 4 1,bg 16 4 3,bz 17 110 [15,16]]⟩,⟨none,[eJ 18 14 17,aa 2 18]⟩],.ret],
 [.tmp 2],19⟩
theorem Hn:aR Tryz.prog 61 [1]=some FL:=by kernel_rfl
def tI:SF:=⟨ae [ab [cI 1 0,bu 2 false],ab [bg 7 4 1,bz 8 70 [7],aa 6 8,fI 9 0 6,fI 10 1 6,fI 11 2 6,((some 3),.op (.alloc [(.emp 1),(.emp 1),(.emp 1),(.val (.int .i64 0))])),bU 4 3 9,aa 4 10,aa 5 11],.region false [⟨none,[aa 12 5,aH 13 .eql 12 0,aa 14 13]⟩,⟨(some (14,true)),[bg 15 4 1,bg 16 4 3,bz 17 36 [15,16]]⟩,⟨none,[eJ 18 14 17,aa 2 18]⟩],.ret],
 [.tmp 2],19⟩
theorem yC:aR Tryz.prog 30 [1]=some tI:=by kernel_rfl
theorem Oc (g:ag) (a:g.Ok) (hs:g.Small):aA Tryz.prog 61 [.agg (ai g)] (gb (isRed g)):=by
 refine aA.val (fu g) fun H=>?_
 refine aw.of mixed Hn ?_
 simp (disch:=omega)only[↓wr,seval,wq,FL,ai,encS]
 refine ay.pure (Mh g a hs).pure ?_
 unfold isRed
 generalize fX g=x
 obtain ⟨k,il,e⟩:=x
 simp (disch:=omega)only[↓wr,seval,wq,xb,ai,encS]
 intro n b
 apply ah.eq<;>intro h
 ·simp (disch:=omega)only[↓wr,seval,wq,xb,ai,encS]
  refine ay.pure (Q1 g k a) ?_
  simp (disch:=omega)only[↓wr,seval,wq]
  simp[h]
 ·simp (disch:=omega)only[↓wr,seval,wq]
  simp[h]
theorem U4 (g:ag) (a:g.Ok):aA Tryz.prog 30 [.agg (ai g)] (gb (isRed g)):=by
 refine aA.val (fu g) fun H=>?_
 refine aw.of mixed yC ?_
 simp (disch:=omega)only[↓wr,seval,wq,tI,ai,encS]
 refine ay.pure (JU g a).pure ?_
 unfold isRed
 generalize fX g=x
 obtain ⟨k,il,e⟩:=x
 simp (disch:=omega)only[↓wr,seval,wq,xb,ai,encS]
 intro n b
 apply ah.eq<;>intro h
 ·simp (disch:=omega)only[↓wr,seval,wq,xb,ai,encS]
  refine ay.pure (QG g k a) ?_
  simp (disch:=omega)only[↓wr,seval,wq]
  simp[h]
 ·simp (disch:=omega)only[↓wr,seval,wq]
  simp[h]
def VK:ag:=⟨[⟨⟨#[39,97,39]⟩,0,0⟩,⟨⟨#[39,98,39]⟩,0,0⟩,⟨⟨#[39,99,39]⟩,0,0⟩,⟨⟨#[39,100,39]⟩,0,0⟩],[⟨#[115]⟩,⟨#[117]⟩,⟨#[118]⟩],[⟨0,[0,(-2)],0⟩,⟨0,[1],1⟩,⟨0,[],(-1)⟩,⟨1,[(-2),2],2⟩,⟨2,[3,(-1)],3⟩],0⟩
def Vr:ag:=⟨VK.af,[⟨#[115]⟩],[⟨0,[1],1⟩,⟨0,[],(-1)⟩],0⟩
theorem pZ:isRed Vr=true:=by kernel_rfl
theorem dB.fr {h:aC} {v t:V} (f:dB h v t):Fr h v t:=by
 induction f with
 | val v=>exact .tree _ (.val _)
 | emp k=>exact .emp k
 | sl id off len esz z es es' h1 c d e _ b=>exact .sl id off len esz z es es' h1 c d e b
 | agg cs a h1 _ b=>exact .agg cs a h1 b
 | bp cs a h1 _ b=>exact .bp cs a h1 b
def bH {κ:Type} (kv:κ→V) (m:bQ κ):List (V × V × Nat):=m.map fun x=>(kv x.1,x.2.1,x.2.2)
structure Hj {κ:Type} [BEq κ] (P:Program) (kt:TypeId) (kv:κ→V):Prop where
 find:∀ k e m,mZ P kt (kv k) e (bH kv m)=some (gV k m)
 same:∀ k,sameKey (kv k) (kv k)=true
def gR {κ:Type} (m:bQ κ) (c:Nat):Prop:=(m.map (·.2.2)).Nodup∧∀ x∈m,x.2.2 < c
def ko {κ:Type} [BEq κ] (m:bQ κ) (k:κ):Option Nat:=(m.find? fun x=>k == x.1).map (·.2.2)
section
variable {κ:Type} [BEq κ] [LawfulBEq κ] {kv:κ→V}
theorem nI (k:κ):∀ m:bQ κ,match gV k m with
  | some i=>∃ x,m[i]?=some x∧x.1=k∧getM m k=some x.2.1∧ko m k=some x.2.2∧(bH kv m)[i]?=some (kv k,x.2.1,x.2.2)∧∀ v c,(bH kv m).set i (kv k,v,x.2.2)=bH kv (bF k v c m)∧ko (bF k v c m) k=some x.2.2∧(bF k v c m).map (·.2.2)=m.map (·.2.2)
  | none=>getM m k=none∧ko m k=none∧∀ v c,bH kv m ++ [(kv k,v,c)]=bH kv (bF k v c m)∧ko (bF k v c m) k=some c∧(bF k v c m).map (·.2.2)=m.map (·.2.2) ++ [c]
 | []=>⟨rfl,rfl,fun v c=>⟨rfl,by simp[bF,ko],rfl⟩⟩
 | x :: r=>by
  have a:=nI k r
  simp only[gV]
  cases hk:k == x.1 with
  | true =>
   have b:x.1=k:=(eq_of_beq hk).symm
   exact ⟨x,rfl,b,by simp[getM,hk],by simp[ko,hk],by simp[bH,b],fun v c=>by simp[bF,hk,bH,ko]⟩
  | false =>
   simp only[Xz,if_false]
   cases hi:gV k r with
   | some i =>
    rw[hi] at a
    obtain ⟨y,h1,d,e,f,g,h⟩:=a
    refine ⟨y,by simpa using h1,d,by simpa [getM,hk] using e,by simpa [ko,hk] using f,by simpa [bH] using g,fun v c=>?_⟩
    obtain ⟨g1,g2,g3⟩:=h v c
    exact ⟨by simp only[bH] at g1 ⊢; simp[bF,hk,g1],by simpa [bF,hk,ko] using g2,by simp[bF,hk,g3]⟩
   | none =>
    rw[hi] at a
    refine ⟨by simpa [getM,hk] using a.1,by simpa [ko,hk] using a.2.1,fun v c=>?_⟩
    obtain ⟨g1,g2,g3⟩:=a.2.2 v c
    exact ⟨by simp only[bH] at g1 ⊢; simp[bF,hk,g1],by simpa [bF,hk,ko] using g2,by simp[bF,hk,g3]⟩
theorem gR.put {m:bQ κ} {c:Nat} (h:gR m c) (k:κ) (v:V):gR (bF k v c m) (c+1):=by
 have f:=nI (kv:=fun _=>V.any) k m
 cases i:gV k m with
 | some j =>
  rw[i] at f
  obtain ⟨y,_,_,_,_,_,n⟩:=f
  have e:=(n v c).2.2
  refine ⟨by rw[e]; exact h.1,fun x g=>?_⟩
  have:x.2.2∈m.map (·.2.2):=by rw[← e]; exact Xw.2 ⟨x,g,rfl⟩
  obtain ⟨y,d,o⟩:=Xw.1 this
  have:=h.2 y d
  omega
 | none =>
  rw[i] at f
  have e:=(f.2.2 v c).2.2
  refine ⟨?_,fun x g=>?_⟩
  ·rw[e,Yc]
   refine ⟨h.1,by simp,fun a p b l=>?_⟩
   simp at l; subst l
   obtain ⟨y,d,rfl⟩:=Xw.1 p
   have:=h.2 y d
   omega
  ·have:x.2.2∈m.map (·.2.2) ++ [c]:=by rw[← e]; exact Xw.2 ⟨x,g,rfl⟩
   rcases XE.1 this with h1 | h1
   ·obtain ⟨y,d,o⟩:=Xw.1 h1
    have:=h.2 y d
    omega
   ·simp at h1; omega
theorem gR.RA {m:bQ κ} {c:Nat} (h:gR m c) {k:κ} {b:Nat} (d:ko m k=some b) (v:V) (f:Nat):gR (bF k v f m) c:=by
 have a:=nI (kv:=fun _=>V.any) k m
 cases g:gV k m with
 | some j =>
  rw[g] at a
  obtain ⟨y,_,_,_,_,_,i⟩:=a
  have e:=(i v f).2.2
  refine ⟨by rw[e]; exact h.1,fun x l=>?_⟩
  have:x.2.2∈m.map (·.2.2):=by rw[← e]; exact Xw.2 ⟨x,l,rfl⟩
  obtain ⟨y,n,o⟩:=Xw.1 this
  have:=h.2 y n
  omega
 | none =>
  rw[g] at a
  rw[a.2.1] at d; simp at d
omit [BEq κ] [LawfulBEq κ] in
theorem find_born (b:Nat):∀ (m:bQ κ) (i:Nat) (x:κ × V × Nat),(m.map (·.2.2)).Nodup→m[i]?=some x→x.2.2=b→(bH kv m).findIdx? (fun e=>e.2.2 == b)=some i
 | [],i,x,_,h,_=>by simp at h
 | y :: m,0,x,a,h,e=>by
  simp at h; subst h
  simp[bH,List.findIdx?_cons,e]
 | y :: m,i+1,x,a,h,e=>by
  simp only[XF,X6] at a
  have h:m[i]?=some x:=by simpa using h
  have f:x∈m:=Xi h
  have c:¬ y.2.2=b:=fun g=>a.1 (by rw[g,← e]; exact Xw.2 ⟨x,f,rfl⟩)
  have d:=find_born b m i x a.2 h e
  simp only[bH] at d
  simp[bH,List.findIdx?_cons,c,d]
variable {P:Program} {T:Env} {H:View} {kt et t ty:TypeId}
theorem GP {K:V→View→Prop} {w:cD (T,H,K)} {x i:Operand} {z:V} {id c:Nat} {m:bQ κ} {k:κ} (hm:dA P t=some (kt,et)) (d:zeroV P et=some z) (hk:Hj P kt kv)
  (e:ev T x=.mp id) (hi:ev T i=kv k) (hH:H id=.map (bH kv m) c) (h:K ((getM m k).getD z) H):jH P (.lookup t x i false) ty T H K w:=by
 intro n _
 have f:=hk.find k (bH kv m).isEmpty m
 have a:=nI (kv:=kv) k m
 refine ⟨(getM m k).getD z,.none,[id],?_,h⟩
 simp only[sI,cp,oper,gf,hm,d,e,hi,hH,f]
 cases b:gV k m with
 | some j =>
  rw[b] at a
  obtain ⟨y,h1,o,g,p,l,_⟩:=a
  simp[l,g]
 | none =>
  rw[b] at a
  simp[a.1]
theorem O8 {z:V} {id c:Nat} {m:bQ κ} {k:κ} (hm:dA P t=some (kt,et)) (l:zeroV P et=some z) (hk:Hj P kt kv) (hH:H id=.map (bH kv m) c) (e:gR m c) :
  ∃ b f,ey P t (.mp id) (kv k) H=some (.bp [(getM m k).getD z,iL b],.fk id (.map (bH kv (bF k ((getM m k).getD z) c m)) f),[id])∧gR (bF k ((getM m k).getD z) c m) f∧ko (bF k ((getM m k).getD z) c m) k=some b:=by
 have d:=hk.find k false m
 have a:=nI (kv:=kv) k m
 cases g:gV k m with
 | some j =>
  rw[g] at a d
  obtain ⟨y,h1,p,h,n,o,i⟩:=a
  refine ⟨y.2.2,c,?_,?_,?_⟩
  ·simp only[ey,hm,hH,d,o,hk.same k,if_true,h,Xu]
   rw[(i y.2.1 c).1]
  ·exact e.RA n _ _
  ·rw[h]; exact (i _ c).2.1
 | none =>
  rw[g] at a d
  refine ⟨c,c+1,?_,e.put k _,?_⟩
  ·simp only[ey,hm,hH,d,l,a.1,Option.getD_none]
   rw[(a.2.2 z c).1]
  ·rw[a.1]; exact (a.2.2 _ c).2.1
theorem UL {K:V→View→Prop} {w:cD (T,H,K)} {x i:Operand} {z:V} {id c:Nat} {m:bQ κ} {k:κ} (hm:dA P t=some (kt,et)) (d:zeroV P et=some z) (hk:Hj P kt kv)
  (e:ev T x=.mp id) (hi:ev T i=kv k) (hH:H id=.map (bH kv m) c) (f:gR m c)
  (h:∀ b a,gR (bF k ((getM m k).getD z) c m) a→ko (bF k ((getM m k).getD z) c m) k=some b→K (.bp [(getM m k).getD z,iL b]) (H.set id (.map (bH kv (bF k ((getM m k).getD z) c m)) a))):jH P (.mapEntry t x i) ty T H K w:=by
 intro n _
 obtain ⟨b,a,h1,g,j⟩:=O8 (k:=k) hm d hk hH f
 refine ⟨.bp [(getM m k).getD z,iL b],.fk id (.map (bH kv (bF k ((getM m k).getD z) c m)) a),[id],?_,h b a g j⟩
 simp only[sI,cp,oper,e,hi]
 exact h1
theorem UW {K:V→View→Prop} {w:cD (T,H,K)} {x s y:Operand} {id c b:Nat} {m:bQ κ} {k:κ} {v:V} (i:ev T x=.mp id) (hs:ev T s=iL b) (l:ev T y=v) (hH:H id=.map (bH kv m) c) (o:gR m c) (a:ko m k=some b)
  (h:∀ c0,K .any (H.set id (.map (bH kv (bF k v c0 m)) c))):jH P (.entryStore t x s y) ty T H K w:=by
 intro n _
 have d:=nI (kv:=kv) k m
 cases g:gV k m with
 | none=>rw[g] at d; rw[d.2.1] at a; simp at a
 | some j =>
  rw[g] at d
  obtain ⟨z,h1,A,B,f,p,q⟩:=d
  rw[a] at f
  have e:z.2.2=b:=by simp at f; exact f.symm
  have r:=find_born (kv:=kv) b m j z o.1 h1 e
  refine ⟨.any,.fk id (.map (bH kv (bF k v c m)) c),[id],?_,h c⟩
  have u:asNat (iL b)=some b:=by simp[asNat,iL]
  simp only[sI,cp,oper,i,hs,l,kG,u,hH,r,p]
  rw[(q v c).1]
end
theorem zj {P:Program} {α:Type} (x:α):bD P (pure x:Sem α)=some x:=rfl
def SV:List Int:=[37,37,32,115,32,58,32,39,97,39,32,115,32,124,32,59]
def qV:ag:=⟨[⟨⟨#[39,97,39]⟩,0,0⟩],[⟨#[115]⟩],[⟨0,[0,(-1)],0⟩,⟨0,[],(-1)⟩],0⟩
theorem VE:dc Tryz.prog 49 [BI SV] (sR qV):=Kd (by kernel_rfl)
section
variable {g:ag} {p:List Int} {T:Tb} {N:Nat}
end
theorem eO.Sh {H:View} {u:V} {l:List Int} (h:aX H u 1 (bE l)):eO H u (encI l):=eO.own h fun e he v a=>by
 obtain ⟨x,_,rfl⟩:=Xw.1 he
 simp at a; subst a; exact .val _
section
variable {g r:ag} {p q:List Bool} {o:List Int}
end
section
variable {fit:List Int→Bool} {T b:Nat}
end
def VP (l:List (List Int)):V:=.aE (l.map fun w=>[encI w])
abbrev VV:=List (V × List Int)
def EV (b:VV):List (List V):=b.map fun x=>[x.1]
def Rt (H:View) (u:V) (out:List (List Int)):Prop:=∃ b:VV,b.map (·.2)=out∧aX H u 1 (EV b)∧∀ x∈b,aX H x.1 1 (bE x.2)
theorem Rt.WW {h:aC} {u:V} {out:List (List Int)} (d:Rt h.view u out):dB h u (VP out):=by
 obtain ⟨b,rfl,d,f⟩:=d
 have c:∀ i (hi:i < b.length),(EV b).getD i []=[(b[i]).1]∧(((b.map (·.2)).map fun w=>[encI w]).getD i [])=[encI (b[i]).2]:=fun i hi=>by
  simp[EV,Xb,hi]
 refine dB.own d (by simp[EV]) (fun i hi=>?_) (fun i j hi e=>?_)
 ·have a:i < b.length:=by simpa [EV] using hi
  rw[(c i a).1,(c i a).2]; rfl
 ·have a:i < b.length:=by simpa [EV] using hi
  rw[(c i a).2] at e ⊢
  rw[(c i a).1]
  have:j=0:=by simp at e; omega
  subst this
  simp only[Yk]
  exact dB.Rl (f _ (Xm a))
section
variable {P:Program} {T:Env} {H:View} {K:V→View→Prop} {w:cD (T,H,K)} {t t1 e ty:TypeId}
end
theorem JE {id off k m:Nat} (hm:m≤k):dx 1 (.sl id off k 1) none (some (gi m))=some (.sl id off m 1,.none,[]):=by
 simp[dx,bound,asNat,hm]
def MF:Value→Value→Bool
 | .int k a,.int k' b=>decide (k=k') && decide (a=b)
 | .bool a,.bool b=>a == b
 | .string a,.string b=>jo a b
 | .pointer none,.pointer none=>true
 | _,_=>false
theorem Ro:∀ (a b:Value),MF a b=true→a=b:=by
 intro a b h
 unfold MF at h
 split at h
 ·simp only[Xl,Xr] at h
  rw[h.1,h.2]
 ·rename_i a b
  rw[show a=b by simpa using h]
 ·rename_i a b
  obtain ⟨a⟩:=a
  obtain ⟨b⟩:=b
  simp only[jo,Yo] at h
  rw[show a=b from Array.toList_inj.1 h]
 ·rfl
 ·simp at h
def A7 (q:V→V→Bool):List V→List V→Bool
 | [],[]=>true
 | a :: l,b :: m=>q a b && A7 q l m
 | _,_=>false
def K7 (q:V→V→Bool):List (List V)→List (List V)→Bool
 | [],[]=>true
 | a :: l,b :: m=>A7 q a b && K7 q l m
 | _,_=>false
def Gy:Nat→V→V→Bool
 | 0,_,_=>false
 | k+1,a,b=>match a,b with
  | .val x,.val y=>MF x y
  | .aE x,.aE y=>K7 (Gy k) x y
  | .agg x,.agg y=>A7 (Gy k) x y
  | .bp x,.bp y=>A7 (Gy k) x y
  | _,_=>false
theorem vx {q:V→V→Bool} (hq:∀ a b,q a b=true→a=b):∀ (l m:List V),A7 q l m=true→l=m
 | [],[],_=>rfl
 | a :: l,b :: m,h=>by
  simp only[A7,Xl] at h
  rw[hq a b h.1,vx hq l m h.2]
 | [],_ :: _,h=>by simp[A7] at h
 | _ :: _,[],h=>by simp[A7] at h
theorem Qr {q:V→V→Bool} (hq:∀ a b,q a b=true→a=b):∀ (l m:List (List V)),K7 q l m=true→l=m
 | [],[],_=>rfl
 | a :: l,b :: m,h=>by
  simp only[K7,Xl] at h
  rw[vx hq a b h.1,Qr hq l m h.2]
 | [],_ :: _,h=>by simp[K7] at h
 | _ :: _,[],h=>by simp[K7] at h
theorem Jf:∀ (k:Nat) (a b:V),Gy k a b=true→a=b
 | 0,_,_,h=>by simp[Gy] at h
 | k+1,a,b,h=>by
  have c:=Jf k
  unfold Gy at h
  split at h
  ·rw[Ro _ _ h]
  ·rw[Qr c _ _ h]
  ·rw[vx c _ _ h]
  ·rw[vx c _ _ h]
  ·simp at h
def uI:Nat→V→Bool
 | 0,_=>false
 | k+1,v=>match v with
  | .val _=>true
  | .emp _=>true
  | .dS=>true
  | .aE es=>es.all fun e=>e.all (uI k)
  | .agg cs=>cs.all (uI k)
  | .bp cs=>cs.all (uI k)
  | _=>false
theorem xE {q:V→Bool} {l:List V} (h:l.all q=true) {i:Nat} (hi:i < l.length):q (l.getD i .any)=true:=by
 have e:l.getD i .any=l[i]:=by simp[Xb,hi]
 rw[e]
 exact XI.1 h _ (Xm _)
theorem B0:∀ (k:Nat) (v:V),uI k v=true→Tree v
 | 0,_,h=>by simp[uI] at h
 | k+1,v,h=>by
  have a:=B0 k
  unfold uI at h
  split at h
  ·exact .val _
  ·exact .emp _
  ·exact .dS
  ·rename_i es
   refine .aE _ fun i j hi b=>a _ ?_
   have e:es.getD i []=es[i]:=by simp[Xb,hi]
   have h1:=XI.1 h _ (Xm hi)
   rw[e] at b ⊢
   exact xE h1 b
  ·exact .agg _ fun i hi=>a _ (xE h hi)
  ·exact .bp _ fun i hi=>a _ (xE h hi)
  ·simp at h
noncomputable def xR (H:View):Nat→V→Option V
 | 0,_=>none
 | k+1,v=>match v with
  | .val x=>some (.val x)
  | .emp _=>some (.aE [])
  | .aE es=>match uI 60 (.aE es) with
   | true=>some (.aE es)
   | false=>none
  | .sl id off len _=>match H id with
   | .arr _ es=>match Nat.ble (off+len) es.length with
    | true=>(ET (xR H k) ((es.drop off).take len)).map .aE
    | false=>none
   | _=>none
  | .agg cs=>(oR (xR H k) cs).map .agg
  | .bp cs=>(oR (xR H k) cs).map .bp
  | _=>none
theorem Ed (h:aC):∀ (k:Nat) (v t:V),xR h.view k v=some t→Fr h v t
 | 0,v,t,a=>by simp[xR] at a
 | k+1,v,t,a=>by
  have b:=Ed h k
  simp only[xR] at a
  split at a
  ·simp only[Xe] at a; subst a; exact .tree _ (.val _)
  ·simp only[Xe] at a; subst a; exact .emp _
  ·split at a
   ·rename_i c
    simp only[Xe] at a; subst a; exact .tree _ (B0 _ _ c)
   ·simp at a
  ·rename_i id off len esz
   split at a
   ·rename_i z es hH
    split at a
    ·rename_i hle
     have hle:=Nat.le_of_ble_eq_true hle
     simp only[Xn] at a
     obtain ⟨es',he,rfl⟩:=a
     obtain ⟨g1,g2⟩:=D9 _ _ he
     have hlen:es'.length=len:=by rw[g1]; simp; omega
     have d:∀ i,i < len→((es.drop off).take len).getD i []=es.getD (off+i) []:=fun i hi=>by
      simp[Xb,YN,hi]
     have g3:∀ i,i < len→oR (xR h.view k) (es.getD (off+i) [])=some (es'.getD i []):=fun i hi=>by
      rw[← d i hi]; exact g2 i (by rw[← g1,hlen]; exact hi)
     exact .sl id off len esz z es es' hH hle hlen (fun i hi=>(iT _ _ (g3 i hi)).1) (fun i j hi e=>b _ _ ((iT _ _ (g3 i hi)).2 j (by rw[← (iT _ _ (g3 i hi)).1]; exact e)))
    ·simp at a
   ·simp at a
  ·simp only[Xn] at a
   obtain ⟨l,hl,rfl⟩:=a
   obtain ⟨g1,g2⟩:=iT _ _ hl
   exact .agg _ _ g1 (fun i hi=>b _ _ (g2 i hi))
  ·simp only[Xn] at a
   obtain ⟨l,hl,rfl⟩:=a
   obtain ⟨g1,g2⟩:=iT _ _ hl
   exact .bp _ _ g1 (fun i hi=>b _ _ (g2 i hi))
  ·simp at a
theorem aA.seen {P:Program} {f:FuncId} {vs g:List V} {t:V} (p:aA P f g t) (q:∀ i,i < vs.length→Tree (vs.getD i .any)) (hl:g.length=vs.length) (k:∀ i,i < vs.length→Fr [] (vs.getD i .any) (g.getD i .any)):aA P f vs t:=by
 intro Z μ w xs a n
 have l:iH Z (fun _=>none) w.heap (cat [] fun _=>.dead):=by
  rw[D1]
  exact ⟨fun _=>trivial,fun i j b o s z A _ h=>by simp at h,fun id b o s h=>by simp at h,n,fun id b o s h=>by simp at h⟩
 have c:∀ b,¬ jG (fun _=>none) b:=fun b ⟨_,_,_,h⟩=>by simp at h
 have m:gA (fun b=>Z b∨jG (fun _=>none) b) μ w.heap g xs:=⟨by rw[hl,a.1],fun i hi=>CT l (k i (by omega)) (xi (a.2 i (by omega)) (q i (by omega)))⟩
 refine (p _ μ w xs m (fun b d=>d.elim (n b) (fun h=>absurd h (c b)))).mono ?_
 rintro e w' ⟨x,r,rfl,u,hs,h1,v,y⟩
 exact ⟨x,r,rfl,u,hs,fun b d=>h1 b (.inl d),fun b d=>(v b d).elim (fun h=>h.elim .inl (fun h=>absurd h (c b))) .inr,y⟩
abbrev wU:=FuncId × List V × V × Bool
def wU.Ok (P:Program) (x:wU):Prop:=dJ P x.1=true∧if x.2.2.2=true then aA P x.1 x.2.1 x.2.2.1 else (dc P x.1 x.2.1 x.2.2.1∨(aA P x.1 x.2.1 x.2.2.1∧BE x.2.2.1))
noncomputable def Th (g:FuncId) (vs:List V) (H:View) (x:wU):Bool:=Nat.beq x.1 g && (match x.2.2.2 with
 | true=>vs.all (uI 60) && (match oR (xR (fun _=>.dead) 60) vs with
  | some ts=>A7 (Gy 60) ts x.2.1
  | none=>false)
 | false=>match oR (xR H 60) vs with
  | some ts=>A7 (Gy 60) ts x.2.1
  | none=>false)
noncomputable def Mv (l:List wU):zN:=fun g vs H=>(l.find? (Th g vs H)).map fun x=>x.2.2.1
theorem IL {P:Program} {l:List wU} (hl:∀ x∈l,x.Ok P):tE P (Mv l):=by
 intro g vs H t h
 unfold Mv at h
 simp only[Xn] at h
 obtain ⟨⟨f,o,r,b⟩,m,rfl⟩:=h
 obtain ⟨h1,a⟩:=hl _ (List.mem_of_find?_eq_some m)
 have hq:=List.find?_some m
 simp only[Th,Xl] at hq
 obtain ⟨j,hq⟩:=hq
 have j:=Y8 j
 simp only at j h1 a hq
 subst j
 refine ⟨h1,?_⟩
 rintro h rfl
 cases b with
 | true =>
  simp only[Xl] at hq
  obtain ⟨k,c⟩:=hq
  split at c
  ·rename_i us d
   obtain ⟨g1,g2⟩:=iT _ _ d
   have:=vx (Jf 60) _ _ c
   subst this
   simp only[if_true] at a
   exact bS.gJ (a.seen (fun i hi=>B0 _ _ (xE k hi)) g1 fun i hi=>Ed [] 60 _ _ (g2 i hi)) h
  ·simp at c
 | false =>
  simp only at hq
  split at hq
  ·rename_i us d
   obtain ⟨g1,g2⟩:=iT _ _ d
   have:=vx (Jf 60) _ _ hq
   subst this
   have e:=fun i hi=>Ed h 60 _ _ (g2 i hi)
   simp only[Xz,if_false] at a
   rcases a with a | ⟨a,n⟩
   ·exact bS.vG a g1 e
   ·exact bS.borrow a n g1 e
  ·simp at hq
def tY (x:Int):Bool:=decide (-9223372036854775808≤x) && decide (x≤9223372036854775807)
theorem qk {x:Int} (h:tY x=true):cy x:=by
 unfold tY at h
 simp only[Xl,Xr] at h
 exact h
def okB (g:ag):Bool:=decide (g.af.length≤900) && decide (g.ak.length≤100) && decide (g.rules.length≤900) && tY g.start && g.af.all (fun t=>tY t.level && tY t.assoc) && g.rules.all fun r=>tY r.left && tY r.prec && decide (r.right.length≤900) && r.right.all tY
theorem NI {g:ag} (h:okB g=true):g.Ok∧g.Small:=by
 unfold okB at h
 simp only[Xl,Xr,XI] at h
 obtain ⟨⟨⟨⟨⟨h1,f⟩,i⟩,c⟩,a⟩,d⟩:=h
 refine ⟨⟨by unfold aL; omega,by unfold aL; omega,by unfold aL; omega,qk c,fun t b=>⟨qk (a t b).1,qk (a t b).2⟩,fun r hr=>?_⟩,⟨by omega⟩⟩
 have:=d r hr
 exact ⟨qk this.1.1.1,qk this.1.1.2,by unfold aL; have:=this.1.2; omega,fun x e=>qk (this.2 x e)⟩
theorem nX:qV.Ok∧qV.Small:=NI (by kernel_rfl)
def OT:List Int:=[37,108,101,102,116,32,39,43,39,32,37,37,32,101,32,58,32,101,32,39,43,39,32,101,32,124,32,39,110,39,32,59]
def mK:ag:=⟨[⟨⟨#[39,43,39]⟩,1,1⟩,⟨⟨#[39,110,39]⟩,0,0⟩],[⟨#[101]⟩],[⟨0,[-1,0,-1],0⟩,⟨0,[1],1⟩],0⟩
noncomputable def TJ:List (FuncId × DF):=Aq Tryz.prog [(42,[]),(43,[1]),(85,[6,100000]),(38,[]),(79,[]),(124,[]),(129,[9]),(176,[9]),(84,[3]),(126,[]),(173,[]),(127,[]),(174,[]),(210,[]),(211,[]),(128,[3]),(175,[3]),(24,[1]),(64,[]),(112,[]),(167,[]),(207,[]),(208,[]),(166,[]),(199,[]),(113,[2,3]),(168,[]),(114,[]),(62,[]),(56,[2]),(50,[2,3]),(53,[2]),(58,[]),(63,[2]),(111,[2]),(33,[1]),(74,[4,5,100000]),(121,[2]),(172,[]),(91,[]),(133,[]),(119,[]),(28,[]),(69,[2]),(68,[]),(72,[2]),(73,[100000]),(120,[]),(75,[1]),(122,[]),(47,[2,3]),(89,[3]),(90,[3]),(88,[]),(132,[]),(92,[])]
theorem MZ:sj Tryz.prog TJ:=xU _ _
theorem U5:dc Tryz.prog 49 [BI OT] (sR mK):=Kd (by kernel_rfl)
theorem lZ:mK.Ok∧mK.Small:=NI (by kernel_rfl)
def SQ:List wU:=[(49,[BI OT],sR mK,false),(49,[BI SV],sR qV,false),(61,[.agg (ai qV)],gb true,false),(61,[.agg (ai mK)],gb true,false),(61,[.agg (ai wu)],gb false,false),(52,[.agg (ai qV)],gb true,false),(52,[.agg (ai mK)],gb true,false),
 (118,[.agg (ai qV)],.aE [[gb true]],false),(118,[.agg (ai mK)],.aE [[gb false]],false)]
theorem Rh:∀ x∈SQ,x.Ok Tryz.prog:=by
 have hi:∀ (g:ag),g.Ok→g.Small→∀ b,isRed g=b→wU.Ok Tryz.prog (61,[.agg (ai g)],gb b,false):=fun g h1 a b e=>⟨by kernel_rfl,by simp only[Xz,if_false]; exact .inr ⟨e ▸ Oc g h1 a,.val _⟩⟩
 have hr:∀ (g:ag),g.Ok→g.Small→∀ b,bG g=b→wU.Ok Tryz.prog (52,[.agg (ai g)],gb b,false):=fun g h1 a b e=>⟨by kernel_rfl,by simp only[Xz,if_false]; exact .inr ⟨e ▸ nQ g h1 a.names,.val _⟩⟩
 have c:∀ (g:ag),g.Ok→g.Small→∀ b,bO (au g false)=b→wU.Ok Tryz.prog (118,[.agg (ai g)],b,false):=fun g h1 a b e=>⟨by kernel_rfl,by simp only[Xz,if_false]; exact .inl (e ▸ zm g h1 a)⟩
 intro x d
 simp only[SQ,Xs,List.not_mem_nil,or_false] at d
 rcases d with rfl | rfl | rfl | rfl | rfl | rfl | rfl | rfl | rfl
 ·exact ⟨by kernel_rfl,by simp only[Xz,if_false]; exact .inl U5⟩
 ·exact ⟨by kernel_rfl,by simp only[Xz,if_false]; exact .inl VE⟩
 ·exact hi qV nX.1 nX.2 true (by kernel_rfl)
 ·exact hi mK lZ.1 lZ.2 true (by kernel_rfl)
 ·exact hi wu UO ⟨by decide⟩ false (by kernel_rfl)
 ·exact hr qV nX.1 nX.2 true (by kernel_rfl)
 ·exact hr mK lZ.1 lZ.2 true (by kernel_rfl)
 ·exact c qV nX.1 nX.2 _ (by kernel_rfl)
 ·exact c mK lZ.1 lZ.2 _ (by kernel_rfl)
theorem Nu:aA Tryz.prog 42 [] (gb true) :=
 (sE mixed MZ (IL Rh) (by simp) (by kernel_rfl)).pure
structure bX where
 sym:Int
 to:Int
 deriving DecidableEq
def jq (x:bX):List V:=[gi x.sym,gi x.to]
theorem TO {H:View} {u:V} {sz b i j:Nat} {es:List (List V)} (h:aX H u sz es) (a:owner u≠some b):iN (.ptr b i j) u:=by
 rcases h with ⟨_,k,rfl⟩ | ⟨z,rfl,_⟩
 ·simp[iN]
 ·simp[iN,owner] at a ⊢
  exact fun e=>a e.symm
abbrev GV:=List (V × List Cell)
abbrev L3:=List (V × List Int)
def bm {α:Type} (A:List (V × α)):List (List V):=A.map fun x=>[x.1]
def xt (A:GV):List cw:=A.map fun x=>(x.1,2,x.2.map ic)
def wM (A:L3):List cw:=A.map fun x=>(x.1,1,bE x.2)
theorem Oa {h:aC} {u:V} {A:GV} (f:aX h.view u 1 (bm A)) (g:∀ x∈A,aX h.view x.1 2 (x.2.map ic)):dB h u (.aE ((A.map (·.2)).map fun r=>[lu r])):=by
 have c:∀ i (hi:i < A.length),(bm A).getD i []=[(A[i]).1]∧(((A.map (·.2)).map fun r=>[lu r]).getD i [])=[lu (A[i]).2]:=fun i hi=>by
  simp[bm,Xb,hi]
 refine dB.own f (by simp[bm]) (fun i hi=>?_) (fun i j hi b=>?_)
 ·have a:i < A.length:=by simpa [bm] using hi
  rw[(c i a).1,(c i a).2]; rfl
 ·have a:i < A.length:=by simpa [bm] using hi
  rw[(c i a).2] at b ⊢
  rw[(c i a).1]
  have:j=0:=by simp at b; omega
  subst this
  simp only[Yk]
  have d:=g _ (Xm a)
  generalize (A[i]'a).2=l at d
  refine dB.own d rfl (fun i _=>rfl) (fun i j hi b=>?_)
  simp only[Xj] at hi
  have e:(l.map ic).getD i []=ic l[i]:=by simp[Xb,hi]
  rw[e] at b ⊢
  match j,b with
  | 0,_=>exact .val _
  | 1,_=>exact .val _
theorem TH {h:aC} {u v s t:V} (h1:dB h u s) (a:dB h v t):dB h (.agg [u,v]) (.agg [s,t]):=.agg _ _ rfl fun j b=>by
 match j,b with
 | 0,_=>exact h1
 | 1,_=>exact a
structure aD where
 ax:Int
 dot:Int
 deriving DecidableEq
def cr (x:aD):List V:=[gi x.ax,gi x.dot]
def aT (l:List aD):List (List V):=l.map cr
def cL (a b:aD):Bool:=decide (a.ax < b.ax) || (decide (a.ax=b.ax) && decide (a.dot < b.dot))
def eE:List aD→aD→List aD
 | [],x=>[x]
 | y :: l,x=>if cL y x=true then y :: eE l x else if y=x then y :: l else x :: y :: l
theorem T8 (a b:aD):∀ v∈[V.agg (cr a),.agg (cr b)],Tree v:=by
 intro v c; simp at c
 rcases c with rfl | rfl <;> exact cq _ fun v c=>by simp[cr] at c; rcases c with rfl | rfl <;> exact .val _
def rA:SF:=⟨ae [ab [cI 2 0,cI 3 1,bu 4 false],.region false [⟨none,[ao 5 0 2,aj 6 5,ao 7 0 3,aj 8 7,aV 9 .lss 6 8,aa 10 9]⟩,⟨(some (10,false)),[ao 11 0 2,aj 12 11,ao 13 0 3,aj 14 13,aV 15 .eql 12 14,aa 16 15]⟩,⟨(some (16,true)),[ao 17 1 2,aj 18 17,ao 19 1 3,aj 20 19,aV 21 .lss 18 20]⟩,⟨(some (10,false)),[eJ 22 16 21]⟩,⟨none,[cz 23 10 22,aa 4 23]⟩],.ret],
 [.tmp 4],24⟩
theorem we:aR Tryz.prog 156 [2,3]=some rA:=by kernel_rfl
def qa:SC :=
 ae [ae [.region false [⟨none,[aa 7 5,aa 8 0,aN 9 8,aV 10 .lss 7 9,aa 11 10]⟩,⟨(some (11,true)),[aa 12 0,aa 13 5,aQ 14 2 12 13,bg 15 2 14,bg 16 2 3,bz 17 156 [15,16]]⟩,⟨none,[eJ 18 11 17]⟩],bY 18 (.exit 0)],.block 1 (ab [aa 19 5,aH 20 .add 19 1,aa 5 20])]
def sf:SF:=⟨ae [ab [cI 3 1,df 4 1],ab [aS 5 0],b6 0 qa,ae [.region false [⟨none,[aa 21 5,aa 22 0,aN 23 22,aV 24 .lss 21 23,aa 25 24]⟩,⟨(some (25,true)),[aa 26 0,aa 27 5,aQ 28 2 26 27,bg 29 2 28,bg 30 2 3,((some 31),.op (.old (.binOp .eql 33 (.tmp 29) (.tmp 30) 33) 4))]⟩,⟨none,[eJ 32 25 31]⟩],bf 32 (ae [ab [aa 33 0,aa 4 33],.ret])],ab [df 34 2,aa 35 0,aa 36 5,((some 37),.op (.slice 2 (.tmp 35) (some (.tmp 36)) none)),gY 38 2 16 34 37,aa 6 38],ab [aa 39 0,aa 40 5,((some 41),.op (.slice 2 (.tmp 39) none (some (.tmp 40)))),bg 42 2 3,((some 43),.op (.bV 1 2 [(.val (.int .i64 0)),(.val (.int .i64 0))] [(0,(.tmp 42))])),gY 44 2 16 41 43,aa 45 6,gY 46 2 16 44 45,aa 4 46],.ret],
 [.tmp 4],47⟩
theorem xk:aR Tryz.prog 108 [3]=some sf:=by kernel_rfl
theorem Pp (a b:aD):aA Tryz.prog 156 [.agg (cr a),.agg (cr b)] (gb (cL a b)):=by
 refine aA.val (T8 a b) fun H=>?_
 refine aw.of mixed we ?_
 unfold cL
 simp (disch:=omega)only[↓wr,seval,wq,rA,cr]
 apply ah.dec<;>intro h1
 ·simp (disch:=omega)only[↓wr,seval,wq]
  rw[decide_eq_true h1]; rfl
 simp (disch:=omega)only[↓wr,seval,wq,cr]
 apply ah.eq<;>intro c
 ·simp (disch:=omega)only[↓wr,seval,wq,cr]
  rw[decide_eq_false h1,decide_eq_true c]; rfl
 ·simp (disch:=omega)only[↓wr,seval,wq]
  rw[decide_eq_false h1,decide_eq_false c]; rfl
def dX:List aD→aD→Nat
 | [],_=>0
 | y :: l,x=>if cL y x=true then dX l x+1 else 0
theorem CI:∀ (l:List aD) (x:aD),dX l x≤l.length
 | [],_=>Xo _
 | y :: l,x=>by
  rw[dX]; split
  ·have:=CI l x; simp; omega
  ·simp
theorem Dh:∀ (l:List aD) (x:aD) (i:Nat) (y:aD),l[i]?=some y→i < dX l x→cL y x=true
 | [],_,_,_,h,_=>by simp at h
 | z :: l,x,0,y,h,hi=>by
  rw[dX] at hi; split at hi
  ·simp at h; subst h; assumption
  ·omega
 | z :: l,x,i+1,y,h,hi=>by
  rw[dX] at hi; split at hi
  ·exact Dh l x i y (by simpa using h) (by omega)
  ·omega
theorem Cz:∀ (l:List aD) (x:aD) (y:aD),l[dX l x]?=some y→cL y x=false
 | [],_,_,h=>by simp at h
 | z :: l,x,y,h=>by
  rw[dX] at h; split at h
  ·exact Cz l x y (by simpa using h)
  ·rename_i e; simp at h; subst h; simpa using e
theorem xg:∀ (l:List aD) (x:aD),eE l x=if l[dX l x]?=some x then l else l.take (dX l x) ++ [x] ++ l.drop (dX l x)
 | [],x=>by simp[eE,dX]
 | y :: l,x=>by
  rw[eE,dX]
  split
  ·have:=xg l x
   simp only[XX,YZ,List.drop_succ_cons,XQ]
   rw[this]; split <;> simp
  ·simp only[XG,Xe,List.take_zero,Yt,Yq,XQ]
theorem rz (x y:aD):gI Tryz.prog 9998 #[.int .i64 x.ax,.int .i64 x.dot] #[.int .i64 y.ax,.int .i64 y.dot]
  [{ name:= "Rule",type:=3,offset:=0,embedded:=false,tag:= "",pkgPath:= "",byteOffset:=0 },{ name:= "Dot",type:=3,offset:=1,embedded:=false,tag:= "",pkgPath:= "",byteOffset:=8 }] ((x.ax == y.ax) && ((x.dot == y.dot) && true)) :=
 .int _ _ _ .i64 _ _ (by decide) Tryz.underlying3 rfl rfl (.int _ _ _ .i64 _ _ (by decide) Tryz.underlying3 rfl rfl .nil)
theorem Ai (x y:aD):((x.ax == y.ax) && ((x.dot == y.dot) && true))=decide (x=y):=by
 cases x; cases y; rw[Yl]; simp
theorem zO {sz id off k m:Nat} (hm:m≤k):dx sz (.sl id off k sz) (some (gi m)) none=some (.sl id (off+m) (k - m) sz,.none,[]):=by
 simp[dx,bound,asNat,hm]
theorem tx {sz id off k m:Nat} (hm:m≤k):dx sz (.sl id off k sz) none (some (gi m))=some (.sl id off m sz,.none,[]):=by
 simp[dx,bound,asNat,hm]
theorem OR (l:List aD):((aT l).all fun e=>e.length == 2 && e.all aO)=true:=by
 simp[aT,List.all_map,cr,aO]
theorem PY {H:View} {u:V} {sz:Nat} {es:List (List V)} (h:aX H u sz es):∃ rd,bI H u=some (es,rd):=by
 rcases h with ⟨rfl,k,rfl⟩ | ⟨n,rfl,a⟩
 ·exact ⟨_,vu _ k⟩
 ·cases es with
  | nil=>exact ⟨[],by simp[bI]⟩
  | cons e es =>
   exact ⟨_,by rw[show (e :: es).length=es.length+1 from rfl,sB _ n 0 es.length sz sz _ a (by simp),Yt,Xv (by simp)]⟩
theorem qS {sz bytes:Nat} {u:V} {es:List (List V)} {H:View} {K:V→View→Prop} {w:cD (H,K)} (a:aX H u sz es) (h:K u H):oD sz bytes u [] H K w:=by
 unfold oD
 rcases a with ⟨_,k,rfl⟩ | ⟨n,rfl,_⟩ <;> simpa using h
theorem Left.behind {H H':View} {q:Nat} {o:c6} {u r:V} (hq:H q=.dead) (h:Left (H.set q o) H' u r):Left H H' u r:=fun a c b=>by
 have e:¬ a=q:=by rintro rfl; exact c hq
 have:=h a (by simp[View.set,e]; exact c) b
 simpa [View.set,e] using this
theorem BA (u:V) (l:List aD) (hl:l.length≤100000) (x:aD) (H:View) (t:aX H u 2 (aT l)):aw Tryz.prog 108 [u,.agg (cr x)] H fun r H'=>aX H' r 2 (aT (eE l x))∧Left H H' u r:=by
 refine aw.of mixed xk ?_
 have hlen:cH u=some l.length:=by rw[t.len]; simp[aT]
 have hle:=CI l x
 simp (disch:=omega)only[↓wr,seval,wq,sf,cr]
 refine aU.up (dX l x) (fun i T H'=>H'=H∧i≤dX l x∧T 0=u∧T 3=.aJ (cr x) 0∧T 5=gi i) ⟨rfl,by omega,rfl,rfl,rfl⟩ ?_
 rintro i k T H' hk ⟨Y,hi,t0,t3,t5⟩
 subst Y
 simp (disch:=omega)only[↓wr,seval,wq,qa,t0,t3,t5,hlen]
 have stop:i=dX l x→True:=fun _=>trivial
 apply ah.dec<;>intro J
 ·have v:l[i]?=some (l[i]'(by omega)):=Xc (by omega)
  generalize l[i]'(by omega)=y at v
  obtain ⟨id,hu,b⟩:=t.sl (by simp[aT]; omega)
  have j:(aT l).length=l.length:=by simp[aT]
  have K:(aT l).getD i []=cr y:=by simp[aT,Xb,v]
  have z:=Pp y x
  simp only[cr] at z K
  simp (disch:=omega)only[↓wr,seval,wq,t0,t3,t5,hu,b,K,cr]
  refine ⟨by simp[aT]; omega,by simp[aT]; omega,?_⟩
  refine ay.pure z ?_
  simp (disch:=omega)only[↓wr,seval,wq,t0,t3,t5]
  apply ah.split<;>intro e
  ·have A:i < dX l x:=by
    rcases XB i (dX l x) with h | h
    ·exact h
    ·have:=Cz l x y (by rw[show dX l x=i by omega]; exact v)
     rw[this] at e; exact absurd e (by simp)
   simp (disch:=omega)only[↓wr,seval,wq,t0,t3,t5]
   exact aF hk A ⟨rfl,A,t0,t3,rfl⟩
  have p:i=dX l x:=by
   rcases XB i (dX l x) with h | h
   ·rw[Dh l x i y v h] at e; exact absurd e (by simp)
   ·omega
  simp (disch:=omega)only[↓wr,seval,wq,t0,t3,t5,hlen]
  refine ah.dec (fun _=>?_) (fun h=>absurd J h)
  simp (disch:=omega)only[↓wr,seval,wq,t0,t3,t5,hu,b,K,cr]
  refine ⟨by simp[aT]; omega,by simp[aT]; omega,?_⟩
  refine jB (xs:=#[.int .i64 y.ax,.int .i64 y.dot]) (ys:=#[.int .i64 x.ax,.int .i64 x.dot]) Tryz.underlying33 (by kernel_rfl) (by kernel_rfl) ?_ ?_ (rz y x) (.inl ⟨rfl,rfl⟩) ?_
  ·rfl
  ·rfl
  rw[Ai]
  simp (disch:=omega)only[↓wr,seval,wq,t0,t3,t5]
  apply ah.dec<;>intro L
  ·subst L
   simp (disch:=omega)only[↓wr,seval,wq,t0]
   rw[xg,Xg (by rw[← p]; exact v)]
   exact ⟨t,fun id b t=>⟨rfl,t⟩⟩
  rw[j] at hu
  have M:bI H' (.sl id i (l.length - i) 2)=some (aT (l.drop i),[id]):=by
   obtain ⟨q,hq⟩:∃ q,l.length - i=q+1:=⟨l.length - i - 1,by omega⟩
   rw[hq,sB H' id i q 2 2 (aT l) b (by rw[j]; omega)]
   rw[show (aT l).drop i=aT (l.drop i) from List.map_drop.symm,Xv (by simp[aT]; omega)]
  simp (disch:=omega)only[↓wr,seval,wq,t0,t3,t5,hu,zO (sz:=2) (id:=id) (off:=0) (k:=l.length) (m:=i) (by omega),M]
  refine iQ aX.nil (OR _) (by unfold aB aT; simp; omega) (by unfold aB aT; simp; omega) ?_
  intro rest H1 N lr
  simp (disch:=omega)only[↓wr,seval,wq,t0,t3,t5,hu,tx (sz:=2) (id:=id) (off:=0) (k:=l.length) (m:=i) (by omega),cr]
  intro q hq
  have B:owner rest≠some id:=(lr id (by rw[b]; simp) (by simp[owner])).2
  have d:H1 id=.arr 2 (aT l):=by rw[(lr id (by rw[b]; simp) (by simp[owner])).1,b]
  have C:¬ id=q:=by rintro rfl; rw[d] at hq; simp at hq
  simp (disch:=omega)only[↓wr,seval,wq,bT]
  rw[xJ _ _ _ _ _ _ _ _ _ _ (by rfl)]
  simp (disch:=omega)only[↓wr,seval,wq,C,d,j]
  refine ⟨⟨by omega,by unfold aB; omega,by unfold aB; omega⟩,fun g c=>?_⟩
  try rw[Yt]
  have D:¬ g=q:=by rintro rfl; simp at c
  rw[Xd D] at c
  have E:¬ g=id:=by rintro rfl; rw[d] at c; simp at c
  have f:=((N.fresh (o:=.arr 2 [[gi x.ax,gi x.dot]]) hq).other (o:=.dead) B).fresh (m:=g) (o:=.arr 2 (List.take i (aT l) ++ [[gi x.ax,gi x.dot]])) (by simp[View.set,D,E,c])
  have F:aX (((H1.set q (.arr 2 [[gi x.ax,gi x.dot]])).set id .dead).set g (.arr 2 (List.take i (aT l) ++ [[gi x.ax,gi x.dot]]))) (.sl g 0 (i+1) 2) 2 (List.take i (aT l) ++ [[gi x.ax,gi x.dot]]):=.inr ⟨g,by simp[j]; omega,by simp[View.set]⟩
  have G:∀ a,H' a≠.dead→a≠id→(((H1.set q (.arr 2 [[gi x.ax,gi x.dot]])).set id .dead).set g (.arr 2 (List.take i (aT l) ++ [[gi x.ax,gi x.dot]]))) a=H' a∧a≠g:=fun a w O=>by
   have h1:=(lr a w (by simp[owner])).1
   have Z:¬ a=q:=by rintro rfl; rw[hq] at h1; exact w h1.symm
   have U:¬ a=g:=by rintro rfl; rw[c] at h1; exact w h1.symm
   exact ⟨by simp[View.set,Z,U,O,h1],U⟩
  generalize ((H1.set q (.arr 2 [[gi x.ax,gi x.dot]])).set id .dead).set g (.arr 2 (List.take i (aT l) ++ [[gi x.ax,gi x.dot]]))=H3 at f F G ⊢
  rw[Yq] at f
  obtain ⟨rd,he⟩:=PY f
  simp (disch:=omega)only[↓wr,seval,wq,he]
  refine iQ F (OR _) (by unfold aB aT; simp; omega) (by unfold aB aT; simp; omega) ?_
  intro r W s I
  simp (disch:=omega)only[↓wr,seval,wq]
  refine ⟨?_,fun a w P=>?_⟩
  ·rw[xg,Xd (by rw[← p,v]; simpa using L),← p]
   simpa [aT,cr,List.map_take,List.map_drop] using s
  ·obtain ⟨X,k2⟩:=G a w (by rintro rfl; exact P (by rw[hu]; rfl))
   have:=I a (by rw[X]; exact w) (by simp[owner]; exact fun h=>k2 h.symm)
   exact ⟨by rw[this.1,X],this.2⟩
 ·simp (disch:=omega)only[↓wr,seval,wq,t0,t3,t5,hlen]
  refine ah.dec (fun h=>absurd h J) (fun _=>?_)
  have Q:i=l.length:=by omega
  subst Q
  have n:aT (eE l x)=aT l ++ [[gi x.ax,gi x.dot]]:=by
   rw[xg,show dX l x=l.length by omega,XL (Xo _),Xd (by simp),List.take_length,List.drop_length]
   simp[aT,cr]
  rcases t with ⟨e,k0,hu⟩ | ⟨id,hu,b⟩
  ·have R:l=[]:=by simpa [aT] using e
   subst R
   simp (disch:=omega)only[↓wr,seval,wq,t0,t3,t5,hu,show ∀ k,dx 2 (.emp k) (some (gi 0)) none=some (.emp k,.none,[]) from fun k=>rfl,show ∀ k,dx 2 (.emp k) none (some (gi 0))=some (.emp k,.none,[]) from fun k=>rfl]
   refine qS aX.nil ?_
   simp (disch:=omega)only[↓wr,seval,wq,t0,t3,t5,hu,show ∀ k,dx 2 (.emp k) none (some (gi 0))=some (.emp k,.none,[]) from fun k=>rfl,cr]
   intro q hq
   simp (disch:=omega)only[↓wr,seval,wq,bT]
   refine iQ (sz:=2) (u:=.emp k0) aX.nil (by simp[aO]) (by unfold aB; simp) (by unfold aB; simp) ?_
   intro r W s I
   simp (disch:=omega)only[↓wr,seval,wq]
   refine qS s ?_
   simp (disch:=omega)only[↓wr,seval,wq]
   exact ⟨by rw[n]; exact s,hu ▸ Left.behind hq I⟩
  ·rw[show (aT l).length=l.length by simp[aT]] at hu
   simp (disch:=omega)only[↓wr,seval,wq,t0,t3,t5,hu,zO (sz:=2) (id:=id) (off:=0) (k:=l.length) (m:=l.length) (by omega),tx (sz:=2) (id:=id) (off:=0) (k:=l.length) (m:=l.length) (by omega)]
   rw[Nat.sub_self,show bI H' (.sl id l.length 0 2)=some ([],[]) from rfl]
   simp (disch:=omega)only[↓wr,seval,wq]
   refine qS aX.nil ?_
   simp (disch:=omega)only[↓wr,seval,wq,t0,t3,t5,hu,tx (sz:=2) (id:=id) (off:=0) (k:=l.length) (m:=l.length) (by omega),cr]
   intro q hq
   simp (disch:=omega)only[↓wr,seval,wq,bT]
   have S:aX H' (.sl id 0 l.length 2) 2 (aT l):=.inr ⟨id,by simp[aT],b⟩
   refine iQ (sz:=2) (S.fresh hq) (by simp[aO]) (by unfold aB aT; simp; omega) (by unfold aB aT; simp; omega) ?_
   intro r W s I
   simp (disch:=omega)only[↓wr,seval,wq]
   refine qS s ?_
   simp (disch:=omega)only[↓wr,seval,wq]
   exact ⟨by rw[n]; exact s,hu ▸ Left.behind hq I⟩
def aK (g:ag) (r:Int):List Int:=if r = -1 then [-1 - g.start] else (av g r).right
def bK (g:ag) (x:aD):Int × Bool:=if x.dot=(aK g x.ax).length then (0,false) else ((aK g x.ax).getD x.dot.toNat 0,true)
def pI:SF:=⟨ae [ab [cI 2 0,df 4 1],ae [ab [aa 5 1,aH 6 .eql 5 (-1)],bf 6 (ae [ab [ao 7 3 2,aj 8 7,((some 9),.op (.arith .sub (.val (.val (.int .i64 (-1)))) (.tmp 8))),((some 10),.op (.bV 1 1 [(.val (.int .i64 0))] [(0,(.tmp 9))])),aa 4 10],.ret])],ab [ao 11 2 2,aj 12 11,aa 13 1,aQ 14 3 12 13,ao 15 1 14,aj 16 15,aa 4 16],.ret],
 [.tmp 4],17⟩
theorem u9:aR Tryz.prog 55 [2]=some pI:=by kernel_rfl
def rB:SF:=⟨ae [ab [cI 2 0,cI 3 1,aS 4 0,bu 5 false],ab [bg 7 4 2,ao 8 0 3,aj 9 8,bz 10 55 [7,9],aa 6 10],ae [ab [ao 11 1 3,aj 12 11,aa 13 6,aN 14 13,aV 15 .eql 12 14],bf 15 (ae [ab [aS 4 0,bu 5 false],.ret])],ab [aa 16 6,ao 17 1 3,aj 18 17,aQ 19 1 16 18,aj 20 19,aa 4 20,bu 5 true],.ret],
 [.tmp 4,.tmp 5],21⟩
theorem vU:aR Tryz.prog 51 [2,3]=some rB:=by kernel_rfl
theorem Nw (g:ag) (hs : -100≤g.start∧g.start≤100) (r:Int) (hr : -1≤r∧r < (g.rules.length:Int)):aA Tryz.prog 55 [.agg (ai g),gi r] (encI (aK g r)):=by
 refine aA.of (by
  intro v a; simp at a
  rcases a with rfl | rfl
  ·exact cq _ (dE g)
  ·exact .val _) ?_
 refine aw.of mixed u9 ?_
 unfold aK
 simp (disch:=omega)only[↓wr,seval,wq,pI,ai,encS]
 apply ah.eq<;>intro h1
 ·simp (disch:=omega)only[↓wr,seval,wq,ai,encS]
  intro n
  rw[Xg h1]
  rintro c a
  refine dB.fr (lQ (l:=[-1 - g.start]) (.inr ⟨n,rfl,?_⟩))
  rw[a]; simp[View.set]
 ·have b:g.rules[r.toNat]?=some (av g r):=by unfold av; exact getD_some (by omega)
  rw[Xd h1]
  generalize av g r=R at b
  simp (disch:=omega)only[↓wr,seval,wq,ai,encS,Xf,b,Xk,aP]
  intro c _
  exact .tree _ (gp R.right)
theorem Ov (g:ag) (hs : -100≤g.start∧g.start≤100) (x:aD) (c : -1≤x.ax∧x.ax < (g.rules.length:Int)) (hd:0≤x.dot∧x.dot≤(aK g x.ax).length) (hl:(aK g x.ax).length≤1000) :
  aA Tryz.prog 51 [.agg (ai g),.agg (cr x)] (.bp [gi (bK g x).1,gb (bK g x).2]):=by
 have h1:=Nw g hs x.ax c
 refine aA.tree (by
  intro v a; simp at a
  rcases a with rfl | rfl
  ·exact cq _ (dE g)
  ·exact cq _ fun v a=>by simp[cr] at a; rcases a with rfl | rfl <;> exact .val _) (.bp _ fun i hi=>by
   match i,hi with
   | 0,_=>exact .val _
   | 1,_=>exact .val _) fun H=>?_
 refine aw.of mixed vU ?_
 simp only[ai,encS,encI] at h1
 unfold bK
 simp (disch:=omega)only[↓wr,seval,wq,rB,ai,encS,cr]
 refine ay.pure h1 ?_
 generalize aK g x.ax=R at hd hl ⊢
 simp (disch:=omega)only[↓wr,seval,wq,cr]
 apply ah.eq<;>intro b
 ·simp (disch:=omega)only[↓wr,seval,wq]
  rw[Xg b]
 ·have d:R[x.dot.toNat]?=some (R.getD x.dot.toNat 0):=getD_some (by omega)
  simp (disch:=omega)only[↓wr,seval,wq,cr,Xf,d,Xk]
  rw[Xd b]
theorem eU {a b:aD} : cL a b=true↔a.ax < b.ax∨a.ax=b.ax∧a.dot < b.dot:=by
 simp[cL]
theorem oU {a b c:aD} (h:cL a b=true) (k:cL b c=true):cL a c=true:=by
 rw[eU] at h k ⊢; omega
theorem me {a:aD} : cL a a=false:=by
 cases h:cL a a with
 | false=>rfl
 | true=>rw[eU] at h; omega
theorem JY {a b:aD} (h:cL a b=true):cL b a=false:=by
 cases k:cL b a with
 | false=>rfl
 | true=>have:=oU h k; rw[me] at this; exact absurd this (by simp)
theorem xO {a b:aD} (h:cL a b=false) (c:¬ a=b):cL b a=true:=by
 rw[eU]
 have h1:¬ cL a b=true:=by simp[h]
 rw[eU] at h1
 obtain ⟨d,ad⟩:=a
 obtain ⟨e,f⟩:=b
 simp only[aD.mk.injEq] at c
 simp only at h1 ⊢
 omega
abbrev cm (l:List aD):Prop:=l.Pairwise fun a b=>cL a b=true
theorem j5:∀ {l:List aD} {x y:aD},y∈eE l x↔y=x∨y∈l
 | [],x,y=>by simp[eE]
 | z :: l,x,y=>by
  rw[eE]
  split
  ·simp only[Xs,j5 (l:=l)]
   constructor
   ·rintro (h | h | h) <;> simp[h]
   ·rintro (h | h | h) <;> simp[h]
  ·split
   ·rename_i h; subst h; simp
   ·simp
theorem sr:∀ {l:List aD} {x:aD},cm l→cm (eE l x)
 | [],x,_=>by simp[eE,cm]
 | z :: l,x,h=>by
  rw[cm,Yy] at h
  rw[eE]
  split
  ·rename_i c
   rw[cm,Yy]
   refine ⟨fun y a=>?_,sr h.2⟩
   rcases j5.1 a with rfl | a
   ·exact c
   ·exact h.1 y a
  ·rename_i c
   split
   ·exact Yy.2 h
   ·rename_i d
    have b:=xO (by simpa using c) d
    rw[cm,Yy]
    refine ⟨fun y a=>?_,Yy.2 h⟩
    rcases Xs.1 a with rfl | a
    ·exact b
    ·exact oU b (h.1 y a)
theorem Fc:∀ (l:List aD) (x:aD),(eE l x).length=l.length∨(eE l x).length=l.length+1
 | [],x=>.inr rfl
 | z :: l,x=>by
  rw[eE]
  split
  ·rcases Fc l x with h | h <;> simp[h]
  ·split <;> simp
theorem CL:∀ {l:List aD} {x:aD},cm l→x∈l→eE l x=l
 | [],x,_,h=>by simp at h
 | z :: l,x,hs,h=>by
  rw[cm,Yy] at hs
  rw[eE]
  rcases Xs.1 h with rfl | h
  ·rw[Xd (by simp[me]),Xg rfl]
  ·rw[Xg (hs.1 x h),CL hs.2 h]
theorem Df:∀ {l:List aD} {x:aD},x ∉ l→(eE l x).length=l.length+1
 | [],x,_=>rfl
 | z :: l,x,h=>by
  simp only[Xs,not_or] at h
  rw[eE]
  split
  ·simp[Df h.2]
  ·rw[Xd (fun e=>h.1 e.symm)]; rfl
theorem FW:∀ {l:List aD} {x:aD},(∀ y∈l,cL y x=true)→eE l x=l ++ [x]
 | [],x,_=>rfl
 | z :: l,x,h=>by
  rw[eE,Xg (h z (by simp)),FW fun y a=>h y (by simp[a])]; rfl
theorem yJ:∀ {a b:List aD},cm a→cm b→(∀ x,x∈a↔x∈b)→a=b
 | [],[],_,_,_=>rfl
 | [],y :: b,_,_,h=>by have:=(h y).2 (by simp); simp at this
 | x :: a,[],_,_,h=>by have:=(h x).1 (by simp); simp at this
 | x :: a,y :: b,d,e,h=>by
  rw[cm,Yy] at d e
  have f:x=y:=by
   have h1:=(h x).1 (by simp)
   have c:=(h y).2 (by simp)
   rcases Xs.1 h1 with h1 | h1
   ·exact h1
   ·rcases Xs.1 c with c | c
    ·exact c.symm
    ·have:=oU (d.1 y c) (e.1 x h1)
     rw[me] at this; exact absurd this (by simp)
  subst f
  congr 1
  refine yJ d.2 e.2 fun z=>?_
  have g:=h z
  simp only[Xs] at g
  constructor
  ·intro hm
   rcases g.1 (.inr hm) with rfl | h
   ·have:=d.1 z hm; rw[me] at this; exact absurd this (by simp)
   ·exact h
  ·intro hm
   rcases g.2 (.inr hm) with rfl | h
   ·have:=e.1 z hm; rw[me] at this; exact absurd this (by simp)
   ·exact h
theorem Ib:∀ (l:List Int) (a n:Int),l.Pairwise (· < ·)→(∀ x∈l,a≤x∧x < a+n)→0≤n→(l.length:Int)≤n
 | [],a,n,_,_,b=>by simpa using b
 | x :: l,a,n,hp,hm,b=>by
  rw[Yy] at hp
  have h1:=hm x (by simp)
  have:=Ib l (x+1) (a+n - (x+1)) hp.2 (fun y c=>by have:=hp.1 y c; have:=hm y (by simp[c]); omega) (by omega)
  simp only[Xt]; omega
def cU (g:ag) (x:aD):Prop:=(-1≤x.ax∧x.ax < (g.rules.length:Int))∧0≤x.dot∧x.dot≤(aK g x.ax).length
theorem gP {g:ag} (a:g.dD) {r:Int} (h : -1≤r∧r < (g.rules.length:Int)):(aK g r).length≤6:=by
 unfold aK
 split
 ·simp
 ·have b:g.rules[r.toNat]?=some (av g r):=by unfold av; exact getD_some (by omega)
  exact a.right _ (Xi b)
theorem iu {g:ag} (e:g.dD) {l:List aD} (hs:cm l) (hl:∀ x∈l,cU g x):l.length≤287:=by
 have hd:∀ x∈l,0≤x.dot∧x.dot≤6:=fun x c=>by
  have h1:=hl x c
  have:=gP e h1.1
  exact ⟨h1.2.1,by have:=h1.2.2; omega⟩
 have h1:(l.map fun x=>(x.ax+1) * 7+x.dot).Pairwise (· < ·):=by
  rw[Zb]
  refine List.Pairwise.imp_of_mem ?_ hs
  intro a b f h d
  rw[eU] at d
  have:=hd a f; have:=hd b h
  omega
 have:=Ib _ 0 287 h1 (fun y i=>by
  obtain ⟨x,c,rfl⟩:=Xw.1 i
  have j:=(hl x c).1
  have:=hd x c; have:=e.rules
  omega) (by omega)
 simp at this
 omega
inductive pk (g:ag) (l:List aD):aD→Prop
 | base {x:aD} : x∈l→pk g l x
 | step {x:aD} {s:Int} {k:Nat} {R:aW} : pk g l x→bK g x=(s,true)→s < 0→g.rules[k]?=some R→R.left = -1 - s→pk g l ⟨k,0⟩
theorem pk.has {g:ag} {l:List aD} (hl:∀ x∈l,cU g x) {x:aD} (h:pk g l x):cU g x:=by
 induction h with
 | base h=>exact hl _ h
 | step _ _ _ hk _ _ =>
  have:=(Xq.1 hk).1
  exact ⟨⟨by simp only; omega,by simp only; omega⟩,by simp only; omega,by simp only; omega⟩
def HN (g:ag):List aD:=(List.range (g.rules.length+1)).flatMap fun (r:Nat)=>(List.range 7).map fun (d:Nat)=>(⟨(r:Int) - 1,(d:Int)⟩:aD)
theorem Ms {g:ag} (a:g.dD) {x:aD} (h:cU g x):x∈HN g:=by
 have:=gP a h.1
 obtain ⟨⟨h1,b⟩,c,e⟩:=h
 simp only[HN,List.mem_flatMap,Xw,XU]
 refine ⟨(x.ax+1).toNat,by omega,x.dot.toNat,by omega,?_⟩
 obtain ⟨r,d⟩:=x
 simp only at h1 b c e this
 simp only[aD.mk.injEq]; omega
theorem tt:∀ (l a:List aD),cm a→cm (l.foldl eE a)∧∀ x,x∈l.foldl eE a↔x∈a∨x∈l
 | [],a,h=>⟨h,fun x=>by simp⟩
 | y :: l,a,h=>by
  obtain ⟨h1,b⟩:=tt l (eE a y) (sr h)
  refine ⟨h1,fun x=>?_⟩
  rw[XC,b,j5,Xs]
  constructor
  ·rintro ((h | h) | h) <;> simp[h]
  ·rintro (h | h | h) <;> simp[h]
open Classical in
noncomputable def cR (g:ag) (l:List aD):List aD:=((HN g).filter fun x=>decide (pk g l x)).foldl eE []
theorem jt (g:ag) (l:List aD):cm (cR g l):=(tt _ [] .nil).1
theorem dt {g:ag} (a:g.dD) {l:List aD} (hl:∀ x∈l,cU g x) {x:aD} : x∈cR g l↔pk g l x:=by
 classical
 rw[cR,(tt _ [] .nil).2]
 simp only[List.not_mem_nil,false_or,XY,Xr]
 exact ⟨fun h=>h.2,fun h=>⟨Ms a (h.has hl),h⟩⟩
theorem Ip {g:ag} (a:g.dD) {l o:List aD} (hl:∀ x∈l,cU g x) (hs:cm o) (h1:∀ x∈o,pk g l x) (b:∀ x∈l,x∈o)
  (c:∀ x∈o,∀ (s:Int) (k:Nat) (R:aW),bK g x=(s,true)→s < 0→g.rules[k]?=some R→R.left = -1 - s→(⟨k,0⟩:aD)∈o):cR g l=o:=by
 refine yJ (jt g l) hs fun x=>?_
 rw[dt a hl]
 refine ⟨fun h=>?_,h1 x⟩
 induction h with
 | base h=>exact b _ h
 | step _ d hs hk e f=>exact c _ f _ _ _ d hs hk e
def bk (g:ag) (l:List aD) (s:Int):List aD:=(l.filter fun x=>decide (bK g x=(s,true))).map fun x=>⟨x.ax,x.dot+1⟩
theorem lT {g:ag} {l:List aD} {s:Int} {y:aD} : y∈bk g l s↔∃ x∈l,bK g x=(s,true)∧y=⟨x.ax,x.dot+1⟩:=by
 simp only[bk,Xw,XY,Xr]
 constructor
 ·rintro ⟨x,⟨h1,a⟩,rfl⟩; exact ⟨x,h1,a,rfl⟩
 ·rintro ⟨x,h1,a,rfl⟩; exact ⟨x,⟨h1,a⟩,rfl⟩
theorem FT {g:ag} {l:List aD} (s:Int) (h:cm l):cm (bk g l s):=by
 rw[cm,bk,Zb]
 refine (h.filter _).imp ?_
 intro a b c
 rw[eU] at c ⊢
 simp only; omega
theorem uP {g:ag} {x:aD} {s:Int} (h:bK g x=(s,true)):x.dot≠(aK g x.ax).length∧(aK g x.ax).getD x.dot.toNat 0=s:=by
 unfold bK at h
 split at h
 ·simp at h
 ·rename_i hd; exact ⟨hd,by simpa using h⟩
theorem HA {g:ag} {l:List aD} {s:Int} (hl:∀ x∈l,cU g x):∀ y∈bk g l s,cU g y:=by
 intro y a
 obtain ⟨x,b,c,rfl⟩:=lT.1 a
 have h1:=hl x b
 have d:=(uP c).1
 exact ⟨h1.1,by simp only; have:=h1.2; omega,by simp only; have:=h1.2; omega⟩
theorem Pz {g:ag} {l:List aD} (hs:cm l) {i:Nat} {x:aD} (b:l[i]?=some x) (s:Int) :
  bk g (l.take (i+1)) s=if bK g x=(s,true) then eE (bk g (l.take i) s) ⟨x.ax,x.dot+1⟩ else bk g (l.take i) s:=by
 have e:l.take (i+1)=l.take i ++ [x]:=by rw[XH,b]; rfl
 rw[e]
 split
 ·rename_i h
  rw[FW]
  ·simp[bk,h]
  ·intro y c
   obtain ⟨z,d,_,rfl⟩:=lT.1 c
   have a:cm (l.take (i+1)):=hs.sublist (List.take_sublist _ _)
   rw[e,cm,List.pairwise_append] at a
   have:=a.2.2 z d x (by simp)
   rw[eU] at this ⊢
   simp only; omega
 ·rename_i h
  simp[bk,h]
theorem te {g:ag} {l:List aD} {s:Int} : (bk g l s).length≤l.length:=by
 rw[bk,Xj]; exact X9 _ _
structure aI where
 bc:List aD
 aG:List bX
 deriving DecidableEq
abbrev aM:aI:=⟨[],[]⟩
def aY (g:ag) (i:Nat):Int:=if i < g.af.length then i else -1 - ((i:Int) - g.af.length)
def findD:List aI→List aD→Int
 | [],_=>-1
 | s :: l,k=>if s.bc=k then 0 else if findD l k < 0 then -1 else findD l k+1
theorem tJ:∀ (l:List aI) (k:List aD),-1≤findD l k
 | [],_=>by simp[findD]
 | s :: l,k=>by
  have:=tJ l k
  rw[findD]; split
  ·omega
  ·split <;> omega
theorem xD:∀ (l:List aI) (k:List aD),findD l k < l.length
 | [],_=>by simp[findD]
 | s :: l,k=>by
  have:=xD l k
  rw[findD]; simp only[Xt]; split
  ·omega
  ·split <;> omega
theorem Im:∀ (l:List aI) (k:List aD) (i:Nat),findD l k=i→∃ s,l[i]?=some s∧s.bc=k
 | [],_,i,h=>by simp[findD] at h
 | s :: l,k,i,h=>by
  rw[findD] at h
  split at h
  ·rename_i e
   have:i=0:=by omega
   subst this
   exact ⟨s,rfl,e⟩
  ·split at h
   ·omega
   ·obtain ⟨j,rfl⟩:∃ j,i=j+1:=⟨i - 1,by omega⟩
    obtain ⟨t,h1,a⟩:=Im l k j (by omega)
    exact ⟨t,by simpa using h1,a⟩
theorem Iq:∀ (l:List aI) (k:List aD),findD l k < 0→∀ s∈l,s.bc≠k
 | [],_,_,s,hs=>by simp at hs
 | t :: l,k,h,s,hs=>by
  rw[findD] at h
  split at h
  ·omega
  ·rename_i a
   have hl:findD l k < 0:=by
    split at h
    ·assumption
    ·omega
   rcases Xs.1 hs with rfl | hs
   ·exact a
   ·exact Iq l k hl s hs
theorem HH:∀ (l:List aI) (k:List aD) (i:Nat) (s:aI),l[i]?=some s→s.bc=k→(∀ j t,j < i→l[j]?=some t→t.bc≠k)→findD l k=i
 | [],_,_,_,h,_,_=>by simp at h
 | t :: l,k,0,s,h,hk,_=>by simp at h; subst h; simp[findD,hk]
 | t :: l,k,i+1,s,h,hk,a=>by
  have b:=a 0 t (by omega) rfl
  have:=HH l k i s (by simpa using h) hk fun j u c hu=>a (j+1) u (by omega) (by simpa using hu)
  rw[findD,Xd b,this,Xd (by omega)]; omega
theorem Ck:∀ (l:List aI) (k:List aD),(∀ s∈l,s.bc≠k)→findD l k = -1
 | [],_,_=>rfl
 | t :: l,k,h=>by
  have:=Ck l k fun s hs=>h s (by simp[hs])
  rw[findD,Xd (h t (by simp)),this]; rfl
def dd (g:ag) (l:List aD) (at_:Nat) (out:List aI) (i:Nat):List aI :=
 if bk g l (aY g i)=[] then out else
 if findD out (bk g l (aY g i)) < 0 then (out ++ [(⟨bk g l (aY g i),[]⟩:aI)]).modify at_ fun s=>(⟨s.bc,s.aG ++ [⟨aY g i,out.length⟩]⟩:aI)
 else out.modify at_ fun s=>(⟨s.bc,s.aG ++ [⟨aY g i,findD out (bk g l (aY g i))⟩]⟩:aI)
noncomputable def BO (g:ag) (at_:Nat) (out:List aI) (n:Nat):List aI:=(List.range n).foldl (dd g (cR g (out.getD at_ aM).bc) at_) out
noncomputable def fM (g:ag):Nat→Nat→List aI→List aI × Int
 | 0,_,out=>(out,0)
 | f+1,at_,out=>if at_ < out.length then
   (if 300 < (BO g at_ out (g.af.length+g.ak.length)).length then ([],5) else fM g f (at_+1) (BO g at_ out (g.af.length+g.ak.length)))
  else (out,0)
def dV:List aI:=[⟨[⟨-1,0⟩],[]⟩]
abbrev BV:=BitVec 32
def fG (n:Int):BV:=if 0≤n∧n≤31 then BitVec.twoPow 32 n.toNat else 0
theorem Ve {a b:BV} (h:∀ i,i < 32→a.getLsbD i=b.getLsbD i):a=b:=BitVec.eq_of_getLsbD_eq fun i hi=>h i hi
def nG (a b:BV):Prop:=∀ i,a.getLsbD i=true→b.getLsbD i=true
def ik (null:List Bool) (first:List BV) (rest:BV):List Int→BV
 | []=>rest
 | s :: l=>if 0≤s then fG s else if null.getD (-1 - s).toNat false=true then first.getD (-1 - s).toNat 0 ||| ik null first rest l else first.getD (-1 - s).toNat 0
def qP (null:List Bool) (fs:List BV) (r:aW):List BV:=fs.set r.left.toNat (fs.getD r.left.toNat 0 ||| ik null fs 0 r.right)
theorem Pf (null:List Bool) (a:List BV) (r:aW):(qP null a r).length=a.length:=by simp[qP]
def DM (g:ag) (null:List Bool) (fs:List BV):List BV:=g.rules.foldl (qP null) fs
theorem Gg (null:List Bool):∀ (l:List aW) (a:List BV),(l.foldl (qP null) a).length=a.length
 | [],_=>rfl
 | r :: l,a=>by rw[XC,Gg null l,Pf]
theorem Nn (g:ag) (null:List Bool) (a:List BV):(DM g null a).length=a.length:=Gg _ _ _
def dM (g:ag) (null:List Bool):List BV:=iter (DM g null) g.ak.length (List.replicate g.ak.length 0)
theorem yI {f:List BV→List BV} (a:∀ l,(f l).length=l.length):∀ (n:Nat) (l:List BV),(iter f n l).length=l.length
 | 0,_=>rfl
 | n+1,l=>by rw[iter,yI a n,a]
theorem Nl (g:ag) (null:List Bool):(dM g null).length=g.ak.length:=by
 rw[dM,yI (Nn g null)]; simp
def c7:List bX→Int→Int
 | [],_=>-1
 | e :: l,s=>if e.sym=s then e.to else c7 l s
def eZ (a:List aI):Int→List Int→Int × Bool
 | at_,[]=>(at_,true)
 | at_,s :: l=>if 0≤c7 (a.getD at_.toNat aM).aG s∧c7 (a.getD at_.toNat aM).aG s < a.length then eZ a (c7 (a.getD at_.toNat aM).aG s) l else (0,false)
def eT (a:List aI) (at_:Int) (l:List Int):Int × Bool:=if at_ < 0∨(a.length:Int)≤at_ then (0,false) else eZ a at_ l
abbrev Sets:=List (List BV)
theorem fj {α:Type} (l:List α) (i j:Nat) (x d:α):(l.set i x).getD j d=if i=j∧i < l.length then x else l.getD j d:=by
 simp only[Xb,YC]
 by_cases e:i=j
 ·subst e
  by_cases h:i < l.length
  ·simp[h]
  ·simp[h]
 ·simp[e]
def jU (g:ag) (x:aD):List Int:=if 0≤x.ax then (av g x.ax).right.drop (x.dot+1).toNat else []
inductive pM (g:ag) (null:List Bool) (a:List aI) (ls:List (List aD)):Nat→aD→Nat→Prop
 | start:(⟨-1,0⟩:aD)∈ls.getD 0 []→pM g null a ls 0 ⟨-1,0⟩ g.af.length
 | move {i:Nat} {x:aD} {t:Nat} {s:Int} : pM g null a ls i x t→bK g x=(s,true)→(⟨x.ax,x.dot+1⟩:aD)∈ls.getD (eT a i [s]).1.toNat []→pM g null a ls (eT a i [s]).1.toNat ⟨x.ax,x.dot+1⟩ t
 | begin {i:Nat} {x:aD} {t u:Nat} {s:Int} {k:Nat} : pM g null a ls i x t→bK g x=(s,true)→s < 0→k < g.rules.length→(av g k).left = -1 - s→(⟨k,0⟩:aD)∈ls.getD i [] →
  (ik null (dM g null) (BitVec.twoPow 32 t) (jU g x)).getLsbD u=true→pM g null a ls i ⟨k,0⟩ u
theorem pM.mem {g:ag} {null:List Bool} {a:List aI} {ls:List (List aD)} {i:Nat} {x:aD} {t:Nat} (h:pM g null a ls i x t):x∈ls.getD i []:=by
 cases h <;> assumption
section
variable {g:ag} {null:List Bool} {a:List aI} {ls:List (List aD)}
end
end Gv
