/-
  Part 11 of the proof: what the machine does and what the functions answer.
  Conditions: those that each lemma names.
-/
import Derived.Test.YtihmlbdfcmfbdaaGreatSGzA3J
set_option linter.unusedSimpArgs false
set_option linter.unusedVariables false
set_option maxRecDepth 100000
namespace Gv
open Go Go.Proofs
def dK:SC :=
  .seq (aq [aQ 14 .lss 13 12]) <|
  .seq (.cond (.tmp 14) (.skip) (.exit 0)) <|
  .seq (.block 1 (.seq (aq [aa 15 13,aa 5 15]) <|
  .seq (aq [aa 16 0,aa 17 5,ba 18 3 16 17,aO 19 3 18,aa 20 1,aa 21 5,ba 22 3 20 21,aO 23 3 22,((some 24),.op (.old (.binOp .neq 129 (.tmp 19) (.tmp 23) 129) 4))]) <|
  .cond (.tmp 24) (.seq (aq [aY 4 false]) <|
  .ret) (.skip))) <|
  aq [aw 25 .add 13 1,aa 13 25]
def dY:SF:=⟨.seq (aq [aY 4 false]) <|
  .seq (.seq (aq [aa 6 0,aR 7 6,aa 8 1,aR 9 8,aQ 10 .neq 7 9]) <|
  .cond (.tmp 10) (.seq (aq [aY 4 false]) <|
  .ret) (.skip)) <|
  .seq (.seq (aq [aa 11 0,aR 12 11,aA 13 0]) <|
  .block 0 (.loop dK)) <|
  .seq (aq [aY 4 true]) <|
  .ret,
  [.tmp 4],26⟩
theorem gg:bD Tryz.prog 162 []=some dY:=by kernel_rfl
def ew:SC :=
  .seq (aq [aQ 14 .lss 13 12]) <|
  .seq (.cond (.tmp 14) (.skip) (.exit 0)) <|
  .seq (.block 1 (.seq (aq [aa 15 13,aa 5 15]) <|
  .seq (aq [aa 16 0,aa 17 5,ba 18 1 16 17,ar 19 18,aa 20 1,aa 21 5,ba 22 1 20 21,ar 23 22,((some 24),.op (.hZ .neq (.tmp 19) (.tmp 23)))]) <|
  .cond (.tmp 24) (.seq (aq [aY 4 false]) <|
  .ret) (.skip))) <|
  aq [aw 25 .add 13 1,aa 13 25]
def eM:SF:=⟨.seq (aq [aY 4 false]) <|
  .seq (.seq (aq [aa 6 0,aR 7 6,aa 8 1,aR 9 8,aQ 10 .neq 7 9]) <|
  .cond (.tmp 10) (.seq (aq [aY 4 false]) <|
  .ret) (.skip)) <|
  .seq (.seq (aq [aa 11 0,aR 12 11,aA 13 0]) <|
  .block 0 (.loop ew)) <|
  .seq (aq [aY 4 true]) <|
  .ret,
  [.tmp 4],26⟩
theorem iq:bD Tryz.prog 163 []=some eM:=by kernel_rfl
def fG:SC :=
  .seq (aq [aQ 14 .lss 13 12]) <|
  .seq (.cond (.tmp 14) (.skip) (.exit 0)) <|
  .seq (.block 1 (.seq (aq [aa 15 13,aa 5 15]) <|
  .seq (aq [aa 16 0,aa 17 5,ba 18 1 16 17,ar 19 18,aa 20 1,aa 21 5,ba 22 1 20 21,ar 23 22,aQ 24 .neq 19 23]) <|
  .cond (.tmp 24) (.seq (aq [aY 4 false]) <|
  .ret) (.skip))) <|
  aq [aw 25 .add 13 1,aa 13 25]
def gn:SF:=⟨.seq (aq [aY 4 false]) <|
  .seq (.seq (aq [aa 6 0,aR 7 6,aa 8 1,aR 9 8,aQ 10 .neq 7 9]) <|
  .cond (.tmp 10) (.seq (aq [aY 4 false]) <|
  .ret) (.skip)) <|
  .seq (.seq (aq [aa 11 0,aR 12 11,aA 13 0]) <|
  .block 0 (.loop fG)) <|
  .seq (aq [aY 4 true]) <|
  .ret,
  [.tmp 4],26⟩
theorem kg:bD Tryz.prog 198 []=some gn:=by kernel_rfl
def te:SF:=⟨.seq (aq [c5 2 0,c5 3 1,aY 4 false]) <|
  .seq (.region false [⟨none,[an 5 0 2,ar 6 5,an 7 0 3,ar 8 7,aQ 9 .eql 6 8,aa 10 9]⟩,⟨(some (10,true)),[an 11 2 2,ar 12 11,an 13 2 3,ar 14 13,aQ 15 .eql 12 14]⟩,⟨none,[bq 16 10 15,aa 17 16]⟩,⟨(some (17,true)),[an 18 1 2,ar 19 18,an 20 1 3,ar 21 20,aD 22 198 [19,21]]⟩,⟨none,[bq 23 17 22,aa 4 23]⟩]) <|
  .ret,
  [.tmp 4],24⟩
theorem wb:bD Tryz.prog 165 [2,3]=some te:=by kernel_rfl
def bT:SC :=
  .seq (aq [aQ 18 .lss 17 16]) <|
  .seq (.cond (.tmp 18) (.skip) (.exit 0)) <|
  .seq (.block 1 (.seq (aq [aa 19 17,ba 20 3 15 17,aO 21 3 20,((some 8),.op (.alloc [(.val (.int .i64 0)),(.emp 1),(.val (.int .i64 0))])),aa 7 19,(none,.op (.store 3 (.tmp 8) (.tmp 21)))]) <|
  .seq (aq [aa 22 1,aa 23 7,ba 24 3 22 23,aO 25 3 24,((some 9),.op (.alloc [(.val (.int .i64 0)),(.emp 1),(.val (.int .i64 0))])),(none,.op (.store 3 (.tmp 9) (.tmp 25)))]) <|
  .seq (aq [aa 26 2,aO 27 3 8,aO 28 3 9,((some 29),.call (.tmp 26) [(.tmp 27),(.tmp 28)]),cw 30 29]) <|
  .cond (.tmp 30) (.seq (aq [aY 6 false]) <|
  .ret) (.skip))) <|
  aq [aw 31 .add 17 1,aa 17 31]
def bZ:SF:=⟨.seq (aq [aY 6 false]) <|
  .seq (.seq (aq [aa 10 0,aR 11 10,aa 12 1,aR 13 12,aQ 14 .neq 11 13]) <|
  .cond (.tmp 14) (.seq (aq [aY 6 false]) <|
  .ret) (.skip)) <|
  .seq (.seq (aq [aa 15 0,aR 16 15,aA 17 0]) <|
  .block 0 (.loop bT)) <|
  .seq (aq [aY 6 true]) <|
  .ret,
  [.tmp 6],32⟩
theorem df:bD Tryz.prog 164 []=some bZ:=by kernel_rfl
def vC:SF:=⟨.seq (aq [c5 2 0,c5 3 1,aY 4 false]) <|
  .seq (.region false [⟨none,[an 5 0 2,ar 6 5,an 7 0 3,ar 8 7,aD 9 162 [6,8],aa 10 9]⟩,⟨(some (10,true)),[an 11 1 2,ar 12 11,an 13 1 3,ar 14 13,aD 15 163 [12,14]]⟩,⟨none,[bq 16 10 15,aa 17 16]⟩,⟨(some (17,true)),[an 18 2 2,ar 19 18,an 20 2 3,ar 21 20,cn 22 164 [(.tmp 19),(.tmp 21),(.val (.fn 165 [] []))]]⟩,⟨none,[bq 23 17 22,aa 24 23]⟩,⟨(some (24,true)),[an 25 3 2,ar 26 25,an 27 3 3,ar 28 27,aQ 29 .eql 26 28]⟩,⟨none,[bq 30 24 29,aa 4 30]⟩]) <|
  .ret,
  [.tmp 4],31⟩
theorem yr:bD Tryz.prog 110 [2,3]=some vC:=by kernel_rfl
theorem D0 {α:Type} {f g:α→List V} {a b:List α} (hf:∀ x,∀ v∈f x,Tree v) (hg:∀ x,∀ v∈g x,Tree v):∀ v∈[V.aI (a.map f),V.aI (b.map g)],Tree v:=by
  intro v hv; simp at hv
  rcases hv with rfl | rfl
  · exact di _ _ fun x _=>hf x
  · exact di _ _ fun x _=>hg x
theorem D1 (a b:List Term) (ha:aJ a) (H:View):aH Tryz.prog 162 [.aI (a.map cF),.aI (b.map cF)] H fun r _=>r=gb (decide (a=b)):=by
  refine aH.of mixed gg ?_
  unfold aJ at ha
  simp (disch:=omega) only [↓wr,↓reduceIte,wq,ai,ag,ak,ab,ae,af,aj,isNil,Nat.reduceEqDiff,Nat.reduceAdd,Nat.reduceLT,Nat.reduceLeDiff,Int.reduceNeg,Int.reduceToNat,reduceCtorEq,dY]
  refine ax.ne (fun h=>?_) (fun h=>?_)
  · simp (disch:=omega) only [↓wr,↓reduceIte,wq,ai,ag,ak,ab,ae,af,aj,isNil,Nat.reduceEqDiff,Nat.reduceAdd,Nat.reduceLT,Nat.reduceLeDiff,Int.reduceNeg,Int.reduceToNat,reduceCtorEq]
    rw[decide_eq_false (vL (by omega))]
  · simp (disch:=omega) only [↓wr,↓reduceIte,wq,ai,ag,ak,ab,ae,af,aj,isNil,Nat.reduceEqDiff,Nat.reduceAdd,Nat.reduceLT,Nat.reduceLeDiff,Int.reduceNeg,Int.reduceToNat,reduceCtorEq]
    refine cD.up a.length (fun i T _=>a.take i=b.take i∧T 0=.aI (a.map cF)∧T 1=.aI (b.map cF)∧T 12=gi a.length∧T 13=gi i) ⟨by simp,rfl,rfl,rfl,rfl⟩ ?_
    rintro i k T H hk ⟨hi,h0,h1,h7,h8⟩
    simp (disch:=omega) only [↓wr,↓reduceIte,wq,ai,ag,ak,ab,ae,af,aj,isNil,Nat.reduceEqDiff,Nat.reduceAdd,Nat.reduceLT,Nat.reduceLeDiff,Int.reduceNeg,Int.reduceToNat,reduceCtorEq,dK,h0,h1,h7,h8]
    refine ax.dec (fun hc=>?_) (fun hc=>?_)
    · have h2:a[i]?=some (a[i]'(by omega)):=List.getElem?_eq_getElem (by omega)
      have h3:b[i]?=some (b[i]'(by omega)):=List.getElem?_eq_getElem (by omega)
      generalize a[i]'(by omega)=x at h2
      generalize b[i]'(by omega)=y at h3
      simp (disch:=omega) only [↓wr,↓reduceIte,wq,ai,ag,ak,ab,ae,af,aj,isNil,Nat.reduceEqDiff,Nat.reduceAdd,Nat.reduceLT,Nat.reduceLeDiff,Int.reduceNeg,Int.reduceToNat,reduceCtorEq,h0,h1,h7,h8,List.getElem?_map,h2,h3,cF]
      refine A5 (xs:=#[.string x.name,.int .i64 x.level,.int .i64 x.assoc]) (ys:=#[.string y.name,.int .i64 y.level,.int .i64 y.assoc]) Tryz.underlying129 (by kernel_rfl) (by kernel_rfl) ?_ ?_ (AT x y) (.inr ⟨rfl,rfl⟩) ?_
      · rfl
      · rfl
      rw[HF]
      simp (disch:=omega) only [↓wr,↓reduceIte,wq,ai,ag,ak,ab,ae,af,aj,isNil,Nat.reduceEqDiff,Nat.reduceAdd,Nat.reduceLT,Nat.reduceLeDiff,Int.reduceNeg,Int.reduceToNat,reduceCtorEq,h0,h1,h7,h8]
      refine ax.split (fun e=>?_) (fun e=>?_)
      · simp (disch:=omega) only [↓wr,↓reduceIte,wq,ai,ag,ak,ab,ae,af,aj,isNil,Nat.reduceEqDiff,Nat.reduceAdd,Nat.reduceLT,Nat.reduceLeDiff,Int.reduceNeg,Int.reduceToNat,reduceCtorEq,h0,h1,h7,h8]
        exact bI hk (by omega) ⟨sM h2 h3 hi (by simpa using e),h0,h1,h7,rfl⟩
      · simp (disch:=omega) only [↓wr,↓reduceIte,wq,ai,ag,ak,ab,ae,af,aj,isNil,Nat.reduceEqDiff,Nat.reduceAdd,Nat.reduceLT,Nat.reduceLeDiff,Int.reduceNeg,Int.reduceToNat,reduceCtorEq,h0,h1,h7,h8]
        rw[decide_eq_false (yM h2 h3 (by simpa using e))]
    · simp (disch:=omega) only [↓wr,↓reduceIte,wq,ai,ag,ak,ab,ae,af,aj,isNil,Nat.reduceEqDiff,Nat.reduceAdd,Nat.reduceLT,Nat.reduceLeDiff,Int.reduceNeg,Int.reduceToNat,reduceCtorEq,h0,h1,h7,h8]
      rw[decide_eq_true (vo (by omega) (by omega) hi)]
theorem Fo (a b:List ByteArray) (ha:aJ a) (H:View):aH Tryz.prog 163 [encS a,encS b] H fun r _=>r=gb (decide (a=b)):=by
  refine aH.of mixed iq ?_
  unfold aJ at ha
  simp (disch:=omega) only [↓wr,↓reduceIte,wq,ai,ag,ak,ab,ae,af,aj,isNil,Nat.reduceEqDiff,Nat.reduceAdd,Nat.reduceLT,Nat.reduceLeDiff,Int.reduceNeg,Int.reduceToNat,reduceCtorEq,eM,encS]
  refine ax.ne (fun h=>?_) (fun h=>?_)
  · simp (disch:=omega) only [↓wr,↓reduceIte,wq,ai,ag,ak,ab,ae,af,aj,isNil,Nat.reduceEqDiff,Nat.reduceAdd,Nat.reduceLT,Nat.reduceLeDiff,Int.reduceNeg,Int.reduceToNat,reduceCtorEq]
    rw[decide_eq_false (vL (by omega))]
  · simp (disch:=omega) only [↓wr,↓reduceIte,wq,ai,ag,ak,ab,ae,af,aj,isNil,Nat.reduceEqDiff,Nat.reduceAdd,Nat.reduceLT,Nat.reduceLeDiff,Int.reduceNeg,Int.reduceToNat,reduceCtorEq]
    refine cD.up a.length (fun i T _=>a.take i=b.take i∧T 0=encS a∧T 1=encS b∧T 12=gi a.length∧T 13=gi i) ⟨by simp,rfl,rfl,rfl,rfl⟩ ?_
    rintro i k T H hk ⟨hi,h0,h1,h7,h8⟩
    simp (disch:=omega) only [↓wr,↓reduceIte,wq,ai,ag,ak,ab,ae,af,aj,isNil,Nat.reduceEqDiff,Nat.reduceAdd,Nat.reduceLT,Nat.reduceLeDiff,Int.reduceNeg,Int.reduceToNat,reduceCtorEq,ew,h0,h1,h7,h8,encS]
    refine ax.dec (fun hc=>?_) (fun hc=>?_)
    · have h2:a[i]?=some (a[i]'(by omega)):=List.getElem?_eq_getElem (by omega)
      have h3:b[i]?=some (b[i]'(by omega)):=List.getElem?_eq_getElem (by omega)
      generalize a[i]'(by omega)=x at h2
      generalize b[i]'(by omega)=y at h3
      simp (disch:=omega) only [↓wr,↓reduceIte,wq,ai,ag,ak,ab,ae,af,aj,isNil,Nat.reduceEqDiff,Nat.reduceAdd,Nat.reduceLT,Nat.reduceLeDiff,Int.reduceNeg,Int.reduceToNat,reduceCtorEq,h0,h1,h7,h8,encS,List.getElem?_map,h2,h3,EO]
      refine ax.split (fun e=>?_) (fun e=>?_)
      · simp (disch:=omega) only [↓wr,↓reduceIte,wq,ai,ag,ak,ab,ae,af,aj,isNil,Nat.reduceEqDiff,Nat.reduceAdd,Nat.reduceLT,Nat.reduceLeDiff,Int.reduceNeg,Int.reduceToNat,reduceCtorEq,h0,h1,h7,h8]
        exact bI hk (by omega) ⟨sM h2 h3 hi (by simpa using e),h0,h1,h7,rfl⟩
      · simp (disch:=omega) only [↓wr,↓reduceIte,wq,ai,ag,ak,ab,ae,af,aj,isNil,Nat.reduceEqDiff,Nat.reduceAdd,Nat.reduceLT,Nat.reduceLeDiff,Int.reduceNeg,Int.reduceToNat,reduceCtorEq,h0,h1,h7,h8]
        rw[decide_eq_false (yM h2 h3 (by simpa using e))]
    · simp (disch:=omega) only [↓wr,↓reduceIte,wq,ai,ag,ak,ab,ae,af,aj,isNil,Nat.reduceEqDiff,Nat.reduceAdd,Nat.reduceLT,Nat.reduceLeDiff,Int.reduceNeg,Int.reduceToNat,reduceCtorEq,h0,h1,h7,h8]
      rw[decide_eq_true (vo (by omega) (by omega) hi)]
theorem Eg (a b:List Int) (ha:aJ a) (H:View):aH Tryz.prog 198 [encI a,encI b] H fun r _=>r=gb (decide (a=b)):=by
  refine aH.of mixed kg ?_
  unfold aJ at ha
  simp (disch:=omega) only [↓wr,↓reduceIte,wq,ai,ag,ak,ab,ae,af,aj,isNil,Nat.reduceEqDiff,Nat.reduceAdd,Nat.reduceLT,Nat.reduceLeDiff,Int.reduceNeg,Int.reduceToNat,reduceCtorEq,gn,encI]
  refine ax.ne (fun h=>?_) (fun h=>?_)
  · simp (disch:=omega) only [↓wr,↓reduceIte,wq,ai,ag,ak,ab,ae,af,aj,isNil,Nat.reduceEqDiff,Nat.reduceAdd,Nat.reduceLT,Nat.reduceLeDiff,Int.reduceNeg,Int.reduceToNat,reduceCtorEq]
    rw[decide_eq_false (vL (by omega))]
  · simp (disch:=omega) only [↓wr,↓reduceIte,wq,ai,ag,ak,ab,ae,af,aj,isNil,Nat.reduceEqDiff,Nat.reduceAdd,Nat.reduceLT,Nat.reduceLeDiff,Int.reduceNeg,Int.reduceToNat,reduceCtorEq]
    refine cD.up a.length (fun i T _=>a.take i=b.take i∧T 0=encI a∧T 1=encI b∧T 12=gi a.length∧T 13=gi i) ⟨by simp,rfl,rfl,rfl,rfl⟩ ?_
    rintro i k T H hk ⟨hi,h0,h1,h7,h8⟩
    simp (disch:=omega) only [↓wr,↓reduceIte,wq,ai,ag,ak,ab,ae,af,aj,isNil,Nat.reduceEqDiff,Nat.reduceAdd,Nat.reduceLT,Nat.reduceLeDiff,Int.reduceNeg,Int.reduceToNat,reduceCtorEq,fG,h0,h1,h7,h8,encI]
    refine ax.dec (fun hc=>?_) (fun hc=>?_)
    · have h2:a[i]?=some (a[i]'(by omega)):=List.getElem?_eq_getElem (by omega)
      have h3:b[i]?=some (b[i]'(by omega)):=List.getElem?_eq_getElem (by omega)
      generalize a[i]'(by omega)=x at h2
      generalize b[i]'(by omega)=y at h3
      simp (disch:=omega) only [↓wr,↓reduceIte,wq,ai,ag,ak,ab,ae,af,aj,isNil,Nat.reduceEqDiff,Nat.reduceAdd,Nat.reduceLT,Nat.reduceLeDiff,Int.reduceNeg,Int.reduceToNat,reduceCtorEq,h0,h1,h7,h8,encI,List.getElem?_map,h2,h3]
      refine ax.ne (fun e=>?_) (fun e=>?_)
      · simp (disch:=omega) only [↓wr,↓reduceIte,wq,ai,ag,ak,ab,ae,af,aj,isNil,Nat.reduceEqDiff,Nat.reduceAdd,Nat.reduceLT,Nat.reduceLeDiff,Int.reduceNeg,Int.reduceToNat,reduceCtorEq,h0,h1,h7,h8]
        rw[decide_eq_false (yM h2 h3 e)]
      · simp (disch:=omega) only [↓wr,↓reduceIte,wq,ai,ag,ak,ab,ae,af,aj,isNil,Nat.reduceEqDiff,Nat.reduceAdd,Nat.reduceLT,Nat.reduceLeDiff,Int.reduceNeg,Int.reduceToNat,reduceCtorEq,h0,h1,h7,h8]
        exact bI hk (by omega) ⟨sM h2 h3 hi e,h0,h1,h7,rfl⟩
    · simp (disch:=omega) only [↓wr,↓reduceIte,wq,ai,ag,ak,ab,ae,af,aj,isNil,Nat.reduceEqDiff,Nat.reduceAdd,Nat.reduceLT,Nat.reduceLeDiff,Int.reduceNeg,Int.reduceToNat,reduceCtorEq,h0,h1,h7,h8]
      rw[decide_eq_true (vo (by omega) (by omega) hi)]
theorem Ev (a b:List Term) (ha:aJ a):aC Tryz.prog 162 [.aI (a.map cF),.aI (b.map cF)] (gb (decide (a=b))):=aC.val (D0 nh nh) (D1 a b ha)
theorem E8 (a b:List ByteArray) (ha:aJ a):aC Tryz.prog 163 [encS a,encS b] (gb (decide (a=b))):=aC.val (by
  intro v hv; simp at hv
  rcases hv with rfl | rfl <;> exact rA _) (Fo a b ha)
theorem D4 (a b:List Int) (ha:aJ a):aC Tryz.prog 198 [encI a,encI b] (gb (decide (a=b))):=aC.val (by
  intro v hv; simp at hv
  rcases hv with rfl | rfl <;> exact fF _) (Eg a b ha)
theorem GR (x y:aE) (hx:aJ x.right):aC Tryz.prog 165 [.agg (bf x),.agg (bf y)] (gb (decide (x=y))):=by
  refine aC.val (by
    intro v hv; simp at hv
    rcases hv with rfl | rfl <;> exact fL _ (ey _)) fun H=>?_
  rw[GP]
  refine aH.of mixed wb ?_
  simp (disch:=omega) only [↓wr,↓reduceIte,wq,ai,ag,ak,ab,ae,af,aj,isNil,Nat.reduceEqDiff,Nat.reduceAdd,Nat.reduceLT,Nat.reduceLeDiff,Int.reduceNeg,Int.reduceToNat,reduceCtorEq,te,bf,encI]
  repeat' (first | (refine ax.dec (fun _=>?_) (fun _=>?_)) | (refine ax.eq (fun _=>?_) (fun _=>?_)) | (refine ax.ne (fun _=>?_) (fun _=>?_)) | (refine ax.split (fun _=>?_) (fun _=>?_)) | (refine aN.pure (D4 x.right y.right hx) (by kernel_rfl) ?_) | (simp (disch:=omega) only [↓wr,↓reduceIte,wq,ai,ag,ak,ab,ae,af,aj,isNil,Nat.reduceEqDiff,Nat.reduceAdd,Nat.reduceLT,Nat.reduceLeDiff,Int.reduceNeg,Int.reduceToNat,reduceCtorEq,bf]))
  all_goals simp[*]
theorem zS (a b:List aE) (ha:aJ a) (hr:∀ r∈a,aJ r.right) (H:View):aH Tryz.prog 164 [.aI (a.map bf),.aI (b.map bf),.fn 165 [] []] H fun r _=>r=gb (decide (a=b)):=by
  refine aH.of mixed df ?_
  unfold aJ at ha
  simp (disch:=omega) only [↓wr,↓reduceIte,wq,ai,ag,ak,ab,ae,af,aj,isNil,Nat.reduceEqDiff,Nat.reduceAdd,Nat.reduceLT,Nat.reduceLeDiff,Int.reduceNeg,Int.reduceToNat,reduceCtorEq,bZ]
  refine ax.ne (fun h=>?_) (fun h=>?_)
  · simp (disch:=omega) only [↓wr,↓reduceIte,wq,ai,ag,ak,ab,ae,af,aj,isNil,Nat.reduceEqDiff,Nat.reduceAdd,Nat.reduceLT,Nat.reduceLeDiff,Int.reduceNeg,Int.reduceToNat,reduceCtorEq]
    rw[decide_eq_false (vL (by omega))]
  · simp (disch:=omega) only [↓wr,↓reduceIte,wq,ai,ag,ak,ab,ae,af,aj,isNil,Nat.reduceEqDiff,Nat.reduceAdd,Nat.reduceLT,Nat.reduceLeDiff,Int.reduceNeg,Int.reduceToNat,reduceCtorEq]
    refine cD.up a.length (fun i T _=>a.take i=b.take i∧T 15=.aI (a.map bf)∧T 1=.aI (b.map bf)∧T 2=.fn 165 [] []∧T 16=gi a.length∧T 17=gi i) ⟨by simp,rfl,rfl,rfl,rfl,rfl⟩ ?_
    rintro i k T H hk ⟨hi,h0,h1,h6,h7,h8⟩
    simp (disch:=omega) only [↓wr,↓reduceIte,wq,ai,ag,ak,ab,ae,af,aj,isNil,Nat.reduceEqDiff,Nat.reduceAdd,Nat.reduceLT,Nat.reduceLeDiff,Int.reduceNeg,Int.reduceToNat,reduceCtorEq,bT,h0,h1,h6,h7,h8]
    refine ax.dec (fun hc=>?_) (fun hc=>?_)
    · have h2:a[i]?=some (a[i]'(by omega)):=List.getElem?_eq_getElem (by omega)
      have h3:b[i]?=some (b[i]'(by omega)):=List.getElem?_eq_getElem (by omega)
      have hm:a[i]'(by omega)∈a:=List.getElem_mem _
      generalize a[i]'(by omega)=x at h2 hm
      generalize b[i]'(by omega)=y at h3
      have hsx:=hr x hm
      simp (disch:=omega) only [↓wr,↓reduceIte,wq,ai,ag,ak,ab,ae,af,aj,isNil,Nat.reduceEqDiff,Nat.reduceAdd,Nat.reduceLT,Nat.reduceLeDiff,Int.reduceNeg,Int.reduceToNat,reduceCtorEq,h0,h1,h6,h7,h8,List.getElem?_map,h2,h3,bf,encI]
      intro n hn
      try simp (disch:=omega) only [↓wr,↓reduceIte,wq,ai,ag,ak,ab,ae,af,aj,isNil,Nat.reduceEqDiff,Nat.reduceAdd,Nat.reduceLT,Nat.reduceLeDiff,Int.reduceNeg,Int.reduceToNat,reduceCtorEq,h0,h1,h6,h7,h8,List.getElem?_map,h2,h3,bf,encI]
      intro m hmd
      have hmn:=(eA hmd eK).1
      try simp (disch:=omega) only [↓wr,↓reduceIte,wq,ai,ag,ak,ab,ae,af,aj,isNil,Nat.reduceEqDiff,Nat.reduceAdd,Nat.reduceLT,Nat.reduceLeDiff,Int.reduceNeg,Int.reduceToNat,reduceCtorEq,h0,h1,h6,h7,h8,List.getElem?_map,h2,h3,bf,encI,hmn,hmn.symm]
      refine aN.pure (GR x y hsx) (by kernel_rfl) ?_
      simp (disch:=omega) only [↓wr,↓reduceIte,wq,ai,ag,ak,ab,ae,af,aj,isNil,Nat.reduceEqDiff,Nat.reduceAdd,Nat.reduceLT,Nat.reduceLeDiff,Int.reduceNeg,Int.reduceToNat,reduceCtorEq,h0,h1,h6,h7,h8]
      refine ax.split (fun e=>?_) (fun e=>?_)
      · simp (disch:=omega) only [↓wr,↓reduceIte,wq,ai,ag,ak,ab,ae,af,aj,isNil,Nat.reduceEqDiff,Nat.reduceAdd,Nat.reduceLT,Nat.reduceLeDiff,Int.reduceNeg,Int.reduceToNat,reduceCtorEq,h0,h1,h6,h7,h8]
        exact bI hk (by omega) ⟨sM h2 h3 hi (by simpa using e),h0,h1,h6,h7,rfl⟩
      · simp (disch:=omega) only [↓wr,↓reduceIte,wq,ai,ag,ak,ab,ae,af,aj,isNil,Nat.reduceEqDiff,Nat.reduceAdd,Nat.reduceLT,Nat.reduceLeDiff,Int.reduceNeg,Int.reduceToNat,reduceCtorEq,h0,h1,h6,h7,h8]
        rw[decide_eq_false (yM h2 h3 (by simpa using e))]
    · simp (disch:=omega) only [↓wr,↓reduceIte,wq,ai,ag,ak,ab,ae,af,aj,isNil,Nat.reduceEqDiff,Nat.reduceAdd,Nat.reduceLT,Nat.reduceLeDiff,Int.reduceNeg,Int.reduceToNat,reduceCtorEq,h0,h1,h6,h7,h8]
      rw[decide_eq_true (vo (by omega) (by omega) hi)]
theorem Ar (a b:List aE) (ha:aJ a) (hr:∀ r∈a,aJ r.right):aC Tryz.prog 164 [.aI (a.map bf),.aI (b.map bf),.fn 165 [] []] (gb (decide (a=b))):=aC.val (by
  intro v hv; simp at hv
  rcases hv with rfl | rfl | rfl
  · exact di _ _ fun x _=>ey x
  · exact di _ _ fun x _=>ey x
  · exact wY (by simp) (by simp)) (zS a b ha hr)
theorem GM (g k:al) (hg:g.Ok):aC Tryz.prog 110 [.agg (aX g),.agg (aX k)] (gb (decide (g=k))):=by
  refine aC.val (EC g k) fun H=>?_
  rw[GY]
  refine aH.of mixed yr ?_
  simp (disch:=omega) only [↓wr,↓reduceIte,wq,ai,ag,ak,ab,ae,af,aj,isNil,Nat.reduceEqDiff,Nat.reduceAdd,Nat.reduceLT,Nat.reduceLeDiff,Int.reduceNeg,Int.reduceToNat,reduceCtorEq,vC,aX,encS]
  repeat' (first | (refine ax.dec (fun _=>?_) (fun _=>?_)) | (refine ax.eq (fun _=>?_) (fun _=>?_)) | (refine ax.ne (fun _=>?_) (fun _=>?_)) | (refine ax.split (fun _=>?_) (fun _=>?_)) | (refine aN.pure (Ev g.az k.az hg.az) (by kernel_rfl) ?_) | (refine aN.pure (E8 g.ay k.ay hg.ay) (by kernel_rfl) ?_) | (refine aN.pure (Ar g.rules k.rules hg.rules (fun r hr=>(hg.aZ r hr).2.2.1)) (by kernel_rfl) ?_) | (simp (disch:=omega) only [↓wr,↓reduceIte,wq,ai,ag,ak,ab,ae,af,aj,isNil,Nat.reduceEqDiff,Nat.reduceAdd,Nat.reduceLT,Nat.reduceLeDiff,Int.reduceNeg,Int.reduceToNat,reduceCtorEq,aX,encS]))
  all_goals simp_all [HS]
def xe:SF:=⟨.seq (aq [c5 1 0,aY 2 false]) <|
  .seq (aq [aO 7 4 1,aD 8 109 [7],aa 6 8,cr 9 0 6,cr 10 1 6,cr 11 2 6,((some 3),.op (.alloc [(.emp 1),(.emp 1),(.emp 1),(.val (.int .i64 0))])),(none,.op (.store 4 (.tmp 3) (.tmp 9))),aa 4 10,aa 5 11]) <|
  .seq (.region false [⟨none,[aa 12 5,aw 13 .eql 12 0,aa 14 13]⟩,⟨(some (14,true)),[aO 15 4 1,aO 16 4 3,aD 17 110 [15,16]]⟩,⟨none,[bq 18 14 17,aa 2 18]⟩]) <|
  .ret,
  [.tmp 2],19⟩
theorem zX:bD Tryz.prog 61 [1]=some xe:=by kernel_rfl
theorem DR (g:al) (hg:g.Ok) (hs:g.Small):aC Tryz.prog 61 [.agg (aX g)] (gb (isRed g)):=by
  refine aC.val (oZ g) fun H=>?_
  refine aH.of mixed zX ?_
  simp (disch:=omega) only [↓wr,↓reduceIte,wq,ai,ag,ak,ab,ae,af,aj,isNil,Nat.reduceEqDiff,Nat.reduceAdd,Nat.reduceLT,Nat.reduceLeDiff,Int.reduceNeg,Int.reduceToNat,reduceCtorEq,xe,aX,encS]
  refine aN.pure (CG g hg hs).pure (by kernel_rfl) ?_
  unfold isRed
  generalize fN g=x
  obtain ⟨k,il,e⟩:=x
  simp (disch:=omega) only [↓wr,↓reduceIte,wq,ai,ag,ak,ab,ae,af,aj,isNil,Nat.reduceEqDiff,Nat.reduceAdd,Nat.reduceLT,Nat.reduceLeDiff,Int.reduceNeg,Int.reduceToNat,reduceCtorEq,wZ,aX,encS]
  intro n hn
  refine ax.eq (fun h=>?_) (fun h=>?_)
  · simp (disch:=omega) only [↓wr,↓reduceIte,wq,ai,ag,ak,ab,ae,af,aj,isNil,Nat.reduceEqDiff,Nat.reduceAdd,Nat.reduceLT,Nat.reduceLeDiff,Int.reduceNeg,Int.reduceToNat,reduceCtorEq,wZ,aX,encS]
    refine aN.pure (GM g k hg) (by kernel_rfl) ?_
    simp (disch:=omega) only [↓wr,↓reduceIte,wq,ai,ag,ak,ab,ae,af,aj,isNil,Nat.reduceEqDiff,Nat.reduceAdd,Nat.reduceLT,Nat.reduceLeDiff,Int.reduceNeg,Int.reduceToNat,reduceCtorEq]
    simp[h]
  · simp (disch:=omega) only [↓wr,↓reduceIte,wq,ai,ag,ak,ab,ae,af,aj,isNil,Nat.reduceEqDiff,Nat.reduceAdd,Nat.reduceLT,Nat.reduceLeDiff,Int.reduceNeg,Int.reduceToNat,reduceCtorEq]
    simp[h]
def Jb:al:=⟨[⟨⟨#[39,97,39]⟩,0,0⟩,⟨⟨#[39,98,39]⟩,0,0⟩,⟨⟨#[39,99,39]⟩,0,0⟩,⟨⟨#[39,100,39]⟩,0,0⟩],[⟨#[115]⟩,⟨#[117]⟩,⟨#[118]⟩],[⟨0,[0,(-2)],0⟩,⟨0,[1],1⟩,⟨0,[],(-1)⟩,⟨1,[(-2),2],2⟩,⟨2,[3,(-1)],3⟩],0⟩
def Ik:al:=⟨Jb.az,[⟨#[115]⟩],[⟨0,[1],1⟩,⟨0,[],(-1)⟩],0⟩
theorem jV:isRed Ik=true:=by kernel_rfl
structure al.Ks (g:al):Prop where
  az:g.az.length≤40
  ay:g.ay.length≤40
  rules:g.rules.length≤60
  right:∀ r∈g.rules,r.right.length≤20
theorem dp.fr {h:av} {v t:V} (f:dp h v t):Fr h v t:=by
  induction f with
  | val v=>exact .tree _ (.val _)
  | emp k=>exact .emp k
  | sl id off len esz z es es' h1 h2 h3 h4 _ ih=>exact .sl id off len esz z es es' h1 h2 h3 h4 ih
  | agg cs cs' h1 _ ih=>exact .agg cs cs' h1 ih
  | aV cs cs' h1 _ ih=>exact .aV cs cs' h1 ih
def vE (p:bm):List V:=[gi p.aZ,gi p.bQ,gi p.rules,gi p.az]
abbrev Cz (P:List bm):V:=.aI (P.map vE)
theorem C4 (P:List bm):Tree (Cz P):=di _ _ fun x _ v hv=>by
  simp[vE] at hv
  rcases hv with rfl | rfl | rfl | rfl <;> exact .val _
theorem Dq (p:bm):∀ v∈vE p,Tree v:=by
  intro v hv; simp[vE] at hv
  rcases hv with rfl | rfl | rfl | rfl <;> exact .val _
def tv (H:View) (u:V) (P:List bm):Prop:=u=Cz P∨aU H u 4 (P.map vE)
theorem tv.CL {H:View} {u:V} {P:List bm} (h:tv H u P):dz H u (Cz P):=by
  rcases h with rfl | h
  · exact dz.tree (C4 P)
  · exact dz.own h fun e he v hv=>by
      obtain ⟨p,_,rfl⟩:=List.mem_map.1 he
      exact Dq p v hv
theorem tv.keep {H H':View} {u:V} {P:List bm} (h:tv H u P) (hk:∀ id,owner u=some id→H' id=H id):tv H' u P:=h.imp id fun h=>h.keep hk
theorem tv.live {H:View} {u:V} {P:List bm} (h:tv H u P) {id:Nat} (hid:owner u=some id):H id≠.dead:=by
  rcases h with rfl | h
  · simp[owner] at hid
  · rw[(h.live hid).1]; simp
def G4 (s:Int × Int):Prop:=(0≤s.1∧s.1≤1000)∧(0≤s.2∧s.2≤1000)
def sA (g:al):List (Int × Int):=(cM g).map rI
theorem sK:rI mf=(0,0):=by decide
theorem F7 (g:al) (m:Nat):mJ (sA g) m=rI (bJ (cM g) m):=by
  simp only[sA,mJ,bJ,List.getD_eq_getElem?_getD,List.getElem?_map]
  cases (cM g)[m]? <;> rfl
theorem IW (g:al) (m:Nat):G4 (rI (bJ (cM g) m)):=by
  have h:jm (bJ (cM g) m):=q9 g _ m
  unfold jm at h
  unfold G4 rI; simp only; omega
def fS (g:al) (j i:Nat) (S:List (Int × Int)):Prop:=S.length=g.ay.length∧∀ m,mJ S m=if (bJ (cM g) m).bQ≤j∨((bJ (cM g) m).bQ=j+1∧m < i) then rI (bJ (cM g) m) else (0,0)
theorem fS.ok {g:al} {j i:Nat} {S:List (Int × Int)} (h:fS g j i S) (m:Nat):G4 (mJ S m):=by
  rw[h.2 m]; split
  · exact IW g m
  · unfold G4; simp
theorem Hx {S:List (Int × Int)} {i m:Nat} {v:Int × Int} (hm:m < S.length):mJ (S.set i v) m=if i=m then v else mJ S m:=by
  simp only[mJ,List.getD_eq_getElem?_getD,List.getElem?_set]
  split
  · rename_i e; subst e; simp[hm]
  · rfl
theorem fS.next {g:al} {j i:Nat} {S:List (Int × Int)} (h:fS g j i S) (hi:(bJ (cM g) i).bQ≠(j:Int)+1):fS g j (i+1) S:=⟨h.1,fun m=>by
  rw[h.2 m]
  by_cases e:m=i
  · subst e
    by_cases h1:(bJ (cM g) m).bQ≤j
    · rw[if_pos (.inl h1),if_pos (.inl h1)]
    · rw[if_neg (by omega),if_neg (by omega)]
  · congr 1
    simp only[eq_iff_iff]
    constructor <;> rintro (h1 | h1) <;> first | exact .inl h1 | exact .inr ⟨h1.1,by omega⟩⟩
theorem fS.put {g:al} {j i:Nat} {S:List (Int × Int)} (h:fS g j i S) (hi:(bJ (cM g) i).bQ=(j:Int)+1) (hn:i < g.ay.length):fS g j (i+1) (S.set i (rI (bJ (cM g) i))):=⟨by simp[h.1],fun m=>by
  by_cases hm:m < S.length
  · rw[Hx hm]
    by_cases e:i=m
    · subst e; rw[if_pos rfl,if_pos (.inr ⟨hi,by omega⟩)]
    · rw[if_neg e,h.2 m]
      congr 1
      simp only[eq_iff_iff]
      constructor <;> rintro (h1 | h1) <;> first | exact .inl h1 | exact .inr ⟨h1.1,by omega⟩
  · have:bJ (cM g) m=mf:=oK (by rw[rr,← h.1]; omega)
    have e:mJ (S.set i (rI (bJ (cM g) i))) m=(0,0):=by
      simp only[mJ,List.getD_eq_getElem?_getD]; rw[List.getElem?_eq_none (by simp; omega)]; rfl
    rw[e,this]
    split <;> simp[sK]⟩
theorem fS.Jw {g:al} {j:Nat} {S:List (Int × Int)} (h:fS g j g.ay.length S):fS g (j+1) 0 S:=⟨h.1,fun m=>by
  rw[h.2 m]
  by_cases hm:m < g.ay.length
  · congr 1
    simp only[eq_iff_iff]
    push_cast
    constructor
    · rintro (h1 | h1) <;> left <;> omega
    · rintro (h1 | h1)
      · omega
      · omega
  · have:bJ (cM g) m=mf:=oK (by rw[rr]; omega)
    rw[this]; split <;> split <;> simp[sK]⟩
theorem fS.start (g:al):fS g 0 0 (List.replicate g.ay.length (0,0)):=⟨by simp,fun m=>by
  have e:mJ (List.replicate g.ay.length (0,0)) m=(0,0):=by
    simp only[mJ,List.getD_eq_getElem?_getD,List.getElem?_replicate]
    split <;> rfl
  rw[e]
  split
  · rename_i h
    by_cases hk:bX (cM g) m
    · have:=(tt hk).1; omega
    · rw[Av hk]; simp[sK]
  · rfl⟩
theorem fS.done {g:al} {S:List (Int × Int)} (h:fS g g.ay.length 0 S):S=sA g:=by
  apply List.ext_getElem (by simp[h.1,sA,rr])
  intro m h1 h2
  have e:S[m]=mJ S m:=by simp[mJ,List.getD_eq_getElem?_getD,h1]
  have e2:(sA g)[m]=mJ (sA g) m:=by simp[mJ,List.getD_eq_getElem?_getD,h2]
  rw[e,e2,h.2 m,F7]
  by_cases hk:bX (cM g) m
  · rw[if_pos (.inl (tt hk).2)]
  · rw[Av hk]; split <;> simp[sK]
def iI {κ:Type} (kv:κ→V) (m:cG κ):List (V × V × Nat):=m.map fun x=>(kv x.1,x.2.1,x.2.2)
structure Kq {κ:Type} [BEq κ] (P:Program) (kt:TypeId) (kv:κ→V):Prop where
  find:∀ k e m,jx P kt (kv k) e (iI kv m)=some (gL k m)
  same:∀ k,sameKey (kv k) (kv k)=true
def yI {κ:Type} (m:cG κ) (c:Nat):Prop:=(m.map (·.2.2)).Nodup∧∀ x∈m,x.2.2 < c
def jE {κ:Type} [BEq κ] (m:cG κ) (k:κ):Option Nat:=(m.find? fun x=>k == x.1).map (·.2.2)
section
variable {κ:Type} [BEq κ] [LawfulBEq κ] {kv:κ→V}
theorem zL (k:κ):∀ m:cG κ,match gL k m with
    | some i=>∃ x,m[i]?=some x∧x.1=k∧getM m k=some x.2.1∧jE m k=some x.2.2∧(iI kv m)[i]?=some (kv k,x.2.1,x.2.2)∧∀ v c,(iI kv m).set i (kv k,v,x.2.2)=iI kv (cJ k v c m)∧jE (cJ k v c m) k=some x.2.2∧(cJ k v c m).map (·.2.2)=m.map (·.2.2)
    | none=>getM m k=none∧jE m k=none∧∀ v c,iI kv m ++ [(kv k,v,c)]=iI kv (cJ k v c m)∧jE (cJ k v c m) k=some c∧(cJ k v c m).map (·.2.2)=m.map (·.2.2) ++ [c]
  | []=>⟨rfl,rfl,fun v c=>⟨rfl,by simp[cJ,jE],rfl⟩⟩
  | x :: r=>by
    have ih:=zL k r
    simp only[gL]
    cases hk:k == x.1 with
    | true =>
      have hx:x.1=k:=(eq_of_beq hk).symm
      exact ⟨x,rfl,hx,by simp[getM,hk],by simp[jE,hk],by simp[iI,hx],fun v c=>by simp[cJ,hk,iI,jE]⟩
    | false =>
      simp only[Bool.false_eq_true,if_false]
      cases hi:gL k r with
      | some i =>
        rw[hi] at ih
        obtain ⟨y,h1,h2,h3,h4,h5,h6⟩:=ih
        refine ⟨y,by simpa using h1,h2,by simpa [getM,hk] using h3,by simpa [jE,hk] using h4,by simpa [iI] using h5,fun v c=>?_⟩
        obtain ⟨g1,g2,g3⟩:=h6 v c
        exact ⟨by simp only[iI] at g1 ⊢; simp[cJ,hk,g1],by simpa [cJ,hk,jE] using g2,by simp[cJ,hk,g3]⟩
      | none =>
        rw[hi] at ih
        refine ⟨by simpa [getM,hk] using ih.1,by simpa [jE,hk] using ih.2.1,fun v c=>?_⟩
        obtain ⟨g1,g2,g3⟩:=ih.2.2 v c
        exact ⟨by simp only[iI] at g1 ⊢; simp[cJ,hk,g1],by simpa [cJ,hk,jE] using g2,by simp[cJ,hk,g3]⟩
theorem yI.put {m:cG κ} {c:Nat} (h:yI m c) (k:κ) (v:V):yI (cJ k v c m) (c+1):=by
  have hg:=zL (kv:=fun _=>V.any) k m
  cases hj:gL k m with
  | some j =>
    rw[hj] at hg
    obtain ⟨y,_,_,_,_,_,h6⟩:=hg
    have e:=(h6 v c).2.2
    refine ⟨by rw[e]; exact h.1,fun x hx=>?_⟩
    have:x.2.2∈m.map (·.2.2):=by rw[← e]; exact List.mem_map.2 ⟨x,hx,rfl⟩
    obtain ⟨y,hy,e2⟩:=List.mem_map.1 this
    have:=h.2 y hy
    omega
  | none =>
    rw[hj] at hg
    have e:=(hg.2.2 v c).2.2
    refine ⟨?_,fun x hx=>?_⟩
    · rw[e,List.nodup_append]
      refine ⟨h.1,by simp,fun a ha b hb=>?_⟩
      simp at hb; subst hb
      obtain ⟨y,hy,rfl⟩:=List.mem_map.1 ha
      have:=h.2 y hy
      omega
    · have:x.2.2∈m.map (·.2.2) ++ [c]:=by rw[← e]; exact List.mem_map.2 ⟨x,hx,rfl⟩
      rcases List.mem_append.1 this with h1 | h1
      · obtain ⟨y,hy,e2⟩:=List.mem_map.1 h1
        have:=h.2 y hy
        omega
      · simp at h1; omega
variable {P:Program} {T:Env} {H:View} {kt et t ty:TypeId}
end
def qd (x:Item):List V:=[ak x.aZ,ak x.dot,ak x.je]
def Js (x:Item):V:=.agg (qd x)
structure Kp (P:Program) (kt:TypeId):Prop where
  ty:∃ f0 f1 f2:Field,P.underlying kt=some (.struct #[f0,f1,f2])∧f0.name≠ "_" ∧ f1.name≠ "_" ∧ f2.name≠ "_" ∧ P.underlying f0.type=some (.int .i64)∧P.underlying f1.type=some (.int .i64)∧P.underlying f2.type=some (.int .i64)∧f0.offset=0∧f1.offset=1∧f2.offset=2
  held:P.stoodInHeld kt=false
def Kb (m:cG Item) (s:List Item) (B:Nat):Prop:=∀ x,(x∈s→∃ k:Nat,getM m x=some (ak k)∧1≤k∧k≤B)∧(x ∉ s→getM m x=none)
structure mG (H:View) (c sid mid:Nat) (sv:Nat→V) (mi:Nat→Nat) (mm:Nat→cG Item) (cl:Nat→Nat) (g:al) (p:List Int) (nu:V) (S S1:Nat→List Item) (B n:Nat) (K:List (Nat × br)):Prop where
  box:H c=.arr 8 [[.aI (g.az.map cF),encS g.ay,.aI (g.rules.map bf),gi g.start,encI p,nu,.sl sid 0 n 1,.sl mid 0 n 1]]
  gQ:H sid=.arr 1 ((List.range n).map fun j=>[sv j])
  seen:H mid=.arr 1 ((List.range n).map fun j=>[.mp (mi j)])
  set:∀ j,j < n→aU H (sv j) 3 ((S j).map qd)
  map:∀ j,j < n→H (mi j)=.map (iI Js (mm j)) (cl j)∧yI (mm j) (cl j)∧Kb (mm j) (S1 j) B
  ne:sid≠mid
  ue:∀ i j o,i < n→j < n→owner (sv i)=some o→owner (sv j)=some o→i=j
  Dx:∀ i j,i < n→j < n→mi i=mi j→i=j
  off:∀ q∈K,H q.1=q.2∧q.2≠.dead∧q.1≠sid∧(∀ j,j < n→q.1≠mi j)∧∀ j,j < n→owner (sv j)≠some q.1
def Ch (H:View) (c:Nat) (g:al) (p:List Int) (nu:V) (S:Nat→List Item) (B n:Nat) (K:List (Nat × br)):Prop:=∃ sid mid sv mi mm cl,mG H c sid mid sv mi mm cl g p nu S S B n K
def rY (S:Nat→List Item) (a:Nat) (x:Item):Nat→List Item:=fun b=>if b=a then (if x∈S a then S a else S a ++ [x]) else S b
theorem Ch.more {H:View} {c:Nat} {g:al} {p:List Int} {nu:V} {S:Nat→List Item} {B B' n:Nat} {K:List (Nat × br)} (h:Ch H c g p nu S B n K) (hB:B≤B'):Ch H c g p nu S B' n K:=by
  obtain ⟨sid,mid,sv,mi,mm,cl,h⟩:=h
  refine ⟨sid,mid,sv,mi,mm,cl,h.box,h.gQ,h.seen,h.set,fun j hj=>⟨(h.map j hj).1,(h.map j hj).2.1,fun x=>⟨fun hx=>?_,((h.map j hj).2.2 x).2⟩⟩,h.ne,h.ue,h.Dx,h.off⟩
  obtain ⟨k,h1,h2,h3⟩:=((h.map j hj).2.2 x).1 hx
  exact ⟨k,h1,h2,by omega⟩
theorem Ch.drop {H:View} {c:Nat} {g:al} {p:List Int} {nu:V} {S:Nat→List Item} {B n:Nat} {q:Nat × br} {K:List (Nat × br)} (h:Ch H c g p nu S B n (q :: K)):Ch H c g p nu S B n K:=by
  obtain ⟨sid,mid,sv,mi,mm,cl,h⟩:=h
  exact ⟨sid,mid,sv,mi,mm,cl,h.box,h.gQ,h.seen,h.set,h.map,h.ne,h.ue,h.Dx,fun q hq=>h.off q (by simp[hq])⟩
theorem mG.new {H:View} {c sid mid:Nat} {sv:Nat→V} {mi:Nat→Nat} {mm:Nat→cG Item} {cl:Nat→Nat} {g:al} {p:List Int} {nu:V} {S S1:Nat→List Item} {B n:Nat} {K:List (Nat × br)} (h:mG H c sid mid sv mi mm cl g p nu S S1 B n K)
    {b:Nat} {o:br} (hb:H b=.dead) (ho:o≠.dead):mG (H.set b o) c sid mid sv mi mm cl g p nu S S1 B n ((b,o) :: K):=by
  have keep:∀ id,H id≠.dead→(H.set b o) id=H id:=fun id hid=>by
    have e:id≠b:=by rintro rfl; exact hid hb
    simp[View.set,e]
  have live:∀ {id},H id≠.dead→b≠id:=fun hid e=>hid (e ▸ hb)
  refine ⟨?_,?_,?_,fun j hj=>?_,fun j hj=>?_,h.ne,h.ue,h.Dx,fun q hq=>?_⟩
  · rw[keep _ (by rw[h.box]; simp)]; exact h.box
  · rw[keep _ (by rw[h.gQ]; simp)]; exact h.gQ
  · rw[keep _ (by rw[h.seen]; simp)]; exact h.seen
  · exact (h.set j hj).fresh hb
  · rw[keep _ (by rw[(h.map j hj).1]; simp)]; exact h.map j hj
  · rcases List.mem_cons.1 hq with rfl | hq
    · refine ⟨by simp[View.set],ho,live (by rw[h.gQ]; simp),fun j hj=>live (by rw[(h.map j hj).1]; simp),fun j hj=>?_⟩
      have:=(h.set j hj).ne hb
      exact this
    · obtain ⟨h1,h2,h3⟩:=h.off q hq
      exact ⟨by rw[keep _ (by rw[h1]; exact h2)]; exact h1,h2,h3⟩
theorem Ch.new {H:View} {c:Nat} {g:al} {p:List Int} {nu:V} {S:Nat→List Item} {B n b:Nat} {o:br} {K:List (Nat × br)} (h:Ch H c g p nu S B n K) (hb:H b=.dead) (ho:o≠.dead):Ch (H.set b o) c g p nu S B n ((b,o) :: K):=by
  obtain ⟨sid,mid,sv,mi,mm,cl,h⟩:=h
  exact ⟨sid,mid,sv,mi,mm,cl,h.new hb ho⟩
theorem Ch.kept {H:View} {c:Nat} {g:al} {p:List Int} {nu:V} {S:Nat→List Item} {B n:Nat} {K:List (Nat × br)} (h:Ch H c g p nu S B n K):∀ q∈K,H q.1=q.2:=by
  obtain ⟨sid,mid,sv,mi,mm,cl,h⟩:=h
  exact fun q hq=>(h.off q hq).1
theorem mG.J7 {H H':View} {c sid mid:Nat} {sv:Nat→V} {mi:Nat→Nat} {mm:Nat→cG Item} {cl:Nat→Nat} {g:al} {p:List Int} {nu:V} {S S1:Nat→List Item} {B n:Nat} {K:List (Nat × br)} (h:mG H c sid mid sv mi mm cl g p nu S S1 B n K)
    {at0:Nat} (ha:at0 < n) {x:Item} (hx:¬ x∈S at0) {u':V} (ho:aU H' u' 3 ((S at0).map qd ++ [qd x])) (hl:Left H H' (sv at0) u') :
    mG (H'.set sid (.arr 1 (((List.range n).map fun j=>[sv j]).set at0 [u']))) c sid mid (fun j=>if j=at0 then u' else sv j) mi mm cl g p nu (rY S at0 x) S1 B n K:=by
  have own:∀ {id},owner (sv at0)=some id→H id=.arr 3 ((S at0).map qd):=fun hid=>((h.set at0 ha).live hid).1
  have n1:owner (sv at0)≠some sid:=fun e=>by
    have:=own e
    rw[h.gQ] at this; simp at this
  have keep:∀ id,H id≠.dead→owner (sv at0)≠some id→H' id=H id∧owner u'≠some id:=hl
  have ns:=keep sid (by rw[h.gQ]; simp) n1
  have keep2:∀ id,H id≠.dead→owner (sv at0)≠some id→id≠sid→(H'.set sid (.arr 1 (((List.range n).map fun j=>[sv j]).set at0 [u']))) id=H id:=fun id h1 h2 h3=>by
    simp only[View.set,if_neg h3]; exact (keep id h1 h2).1
  have no3:∀ {id o},H id=o→o≠.arr 3 ((S at0).map qd)→owner (sv at0)≠some id:=fun h1 h2 e=>h2 (by rw[← h1]; exact own e)
  refine ⟨?_,?_,?_,fun j hj=>?_,fun j hj=>?_,h.ne,fun i j o hi hj h1 h2=>?_,h.Dx,fun q hq=>?_⟩
  · rw[keep2 c (by rw[h.box]; simp) (no3 h.box (by simp)) (by rintro rfl; have:=h.box; rw[h.gQ] at this; simp at this)]; exact h.box
  · simp only[View.set,if_true]
    congr 1
    rw[BU]
    apply List.map_congr_left
    intro j _
    split <;> rfl
  · rw[keep2 mid (by rw[h.seen]; simp) (no3 h.seen (by simp)) h.ne.symm]; exact h.seen
  · by_cases e:j=at0
    · subst e
      simp only[if_true,rY,if_neg hx,List.map_append,List.map_cons,List.map_nil]
      exact ho.other ns.2
    · simp only[if_neg e,rY]
      refine (h.set j hj).keep fun id hid=>?_
      have hlv:=((h.set j hj).live hid).1
      refine keep2 id (by rw[hlv]; simp) (fun e2=>e (h.ue j at0 id hj ha hid e2)) ?_
      rintro rfl; rw[h.gQ] at hlv; simp at hlv
  · obtain ⟨g1,g2,g3⟩:=h.map j hj
    refine ⟨?_,g2,g3⟩
    rw[keep2 (mi j) (by rw[g1]; simp) (no3 g1 (by simp)) (by intro e; rw[e,h.gQ] at g1; simp at g1)]; exact g1
  · by_cases e1:i=at0
    · by_cases e2:j=at0
      · omega
      · simp only[if_pos e1,if_neg e2] at h1 h2
        exfalso
        have hlv:=((h.set j hj).live h2).1
        exact (keep o (by rw[hlv]; simp) (fun e3=>e2 (h.ue j at0 o hj ha h2 e3))).2 h1
    · by_cases e2:j=at0
      · simp only[if_neg e1,if_pos e2] at h1 h2
        exfalso
        have hlv:=((h.set i hi).live h1).1
        exact (keep o (by rw[hlv]; simp) (fun e3=>e1 (h.ue i at0 o hi ha h1 e3))).2 h2
      · simp only[if_neg e1,if_neg e2] at h1 h2
        exact h.ue i j o hi hj h1 h2
  · obtain ⟨h1,h2,h3,h4,h5⟩:=h.off q hq
    refine ⟨?_,h2,h3,h4,fun j hj=>?_⟩
    · rw[keep2 q.1 (by rw[h1]; exact h2) (h5 at0 ha) h3]; exact h1
    · by_cases e:j=at0
      · simp only[if_pos e]; exact (keep q.1 (by rw[h1]; exact h2) (h5 at0 ha)).2
      · simp only[if_neg e]; exact h5 j hj
inductive Al (g:al) (p:List Int):Int→Nat→Prop
  | start:Al g p g.start 0
  | step (R:aE) (l1 l2:List Int) (n:Int) (f a:Nat):R∈g.rules→R.right=l1 ++ (-1 - n) :: l2→Al g p R.left f→Sp g p l1 f a→Al g p n a
def CS (g:al) (p:List Int) (x:Item):Prop:=∃ R,g.rules[x.aZ]?=some R∧Al g p R.left x.je
inductive AK (g:al) (p:List Int):Int→Nat→Prop
  | full (R:aE) (l1 l2:List Int) (f:Nat):R∈g.rules→R.right=l1 ++ l2→Sp g p l1 f p.length→AK g p R.left f
  | deep (R:aE) (l1 l2:List Int) (s:Int) (f a:Nat):R∈g.rules→R.right=l1 ++ s :: l2→s < 0→Sp g p l1 f a→a < p.length→AK g p (-1 - s) a→AK g p R.left f
theorem Al.len {g:al} {p:List Int} {n:Int} {a:Nat} (h:Al g p n a):a≤p.length:=by
  induction h with
  | start=>omega
  | step _ _ _ _ _ _ _ _ _ hs ih=>exact hs.len ih
theorem HV {l:List Int} {d:Nat} {s:Int} (h:l[d]?=some s):l=l.take d ++ s :: l.drop (d+1):=by
  have h1:=(List.getElem?_eq_some_iff.1 h)
  obtain ⟨hl,he⟩:=h1
  rw[← he]
  simp
theorem CS.ask {g:al} {p:List Int} {a:Nat} {x:Item} (h:CS g p x) (hs:Sound g p a x) {R:aE} (hR:g.rules[x.aZ]?=some R) {s:Int} (hd:R.right[x.dot]?=some s):Al g p (-1 - s) a:=by
  obtain ⟨R1,h1,h2⟩:=h
  obtain ⟨R2,h3,_,_,h4⟩:=hs
  rw[hR] at h1 h3; simp at h1 h3; subst h1; subst h3
  refine .step R (R.right.take x.dot) (R.right.drop (x.dot+1)) (-1 - s) x.je a (List.mem_of_getElem? hR) ?_ h2 h4
  rw[show -1 - (-1 - s)=s by omega]
  exact HV hd
theorem Sp.cut {g:al} {p:List Int} {k:Nat} {l:List Int} {i j:Nat} (h:Sp g p l i j):j≤k→Sp g (p.take k) l i j:=by
  induction h with
  | nil i=>exact fun _=>.nil i
  | term s l i j h0 hf h ih =>
    intro hk
    have:=h.le
    obtain ⟨c,hc,h2⟩:=hf
    exact .term s l i j h0 ⟨c,by rw[List.getElem?_take,if_pos (by omega)]; exact hc,h2⟩ (ih hk)
  | cX s l R i m j h0 hR hl h1 h2 ih1 ih2 =>
    intro hk
    have:=h2.le
    exact .cX s l R i m j h0 hR hl (ih1 (by omega)) (ih2 hk)
def Grow (a:Nat) (S S':Nat→List Item):Prop:=∀ b,S b <+: S' b∧(b < a→S' b=S b)
structure Good (g:al) (p:List Int) (S:Nat→List Item):Prop where
  nodup:∀ a,(S a).Nodup
  sound:∀ a x,x∈S a→Sound g p a x
  top:∀ a x,x∈S a→CS g p x
  out:∀ a,p.length < a→S a=[]
theorem Grow.refl (a:Nat) (S:Nat→List Item):Grow a S S:=fun _=>⟨List.prefix_refl _,fun _=>rfl⟩
theorem Grow.trans {a:Nat} {S S' S'':Nat→List Item} (h:Grow a S S') (h':Grow a S' S''):Grow a S S'':=fun b=>⟨(h b).1.trans (h' b).1,fun hb=>((h' b).2 hb).trans ((h b).2 hb)⟩
theorem Grow.mem {a b:Nat} {S S':Nat→List Item} (h:Grow a S S') {x:Item} (hx:x∈S b):x∈S' b:=(h b).1.subset hx
theorem Good.put {g:al} {p:List Int} {S:Nat→List Item} (h:Good g p S) {a:Nat} {x:Item} (hx:Sound g p a x) (ht:CS g p x) (ha:a≤p.length):Good g p (rY S a x):=by
  refine ⟨fun b=>?_,fun b y hy=>?_,fun b y hy=>?_,fun b hb=>?_⟩
  · unfold rY
    split
    · rename_i e
      subst e
      split
      · exact h.nodup _
      · rename_i hn
        rw[List.nodup_append]
        refine ⟨h.nodup _,by simp,fun u hu v hv=>?_⟩
        simp at hv
        rintro rfl
        exact hn (hv ▸ hu)
    · exact h.nodup _
  · unfold rY at hy
    split at hy
    · rename_i e
      subst e
      split at hy
      · exact h.sound _ _ hy
      · rcases List.mem_append.1 hy with hy | hy
        · exact h.sound _ _ hy
        · simp at hy; subst hy; exact hx
    · exact h.sound _ _ hy
  · unfold rY at hy
    split at hy
    · rename_i e
      subst e
      split at hy
      · exact h.top _ _ hy
      · rcases List.mem_append.1 hy with hy | hy
        · exact h.top _ _ hy
        · simp at hy; subst hy; exact ht
    · exact h.top _ _ hy
  · unfold rY
    rw[if_neg (by omega)]
    exact h.out b hb
theorem nJ:∀ (N:Nat) (l:List Nat),l.Nodup→(∀ x∈l,x < N)→l.length≤N
  | 0,l,_,h=>by
    cases l with
    | nil=>simp
    | cons x l=>exact absurd (h x (by simp)) (by omega)
  | N+1,l,hd,h=>by
    by_cases e:N∈l
    · have h1:=nJ N (l.erase N) (hd.erase N) fun x hx=>by
        have h2:=(hd.mem_erase_iff).1 hx
        have:=h x h2.2
        have:=h2.1
        omega
      rw[List.length_erase_of_mem e] at h1
      omega
    · have:=nJ N l hd fun x hx=>by
        have:=h x hx
        have:x≠N:=by rintro rfl; exact e hx
        omega
      omega
theorem yk {α:Type} {f:α→Nat} : ∀ {l:List α},l.Nodup→(∀ x∈l,∀ y∈l,f x=f y→x=y)→(l.map f).Nodup
  | [],_,_=>by simp
  | x :: l,hd,h=>by
    rw[List.nodup_cons] at hd
    rw[List.map_cons,List.nodup_cons]
    refine ⟨fun hm=>?_,yk hd.2 fun a ha b hb=>h a (by simp[ha]) b (by simp[hb])⟩
    obtain ⟨y,hy,e⟩:=List.mem_map.1 hm
    have:=h y (by simp[hy]) x (by simp) e
    exact hd.1 (this ▸ hy)
theorem Sound.small {g:al} (hf:g.sd) {p:List Int} {a:Nat} {x:Item} (h:Sound g p a x):x.aZ < 40∧x.dot < 7∧x.je≤a:=by
  obtain ⟨R,hR,hd,hfr,_⟩:=h
  have h1:=(List.getElem?_eq_some_iff.1 hR).1
  have h2:=hf.rules
  have h3:=hf.right R (List.mem_of_getElem? hR)
  omega
theorem Good.len {g:al} (hf:g.sd) {p:List Int} (hp:p.length≤60) {S:Nat→List Item} (h:Good g p S) (a:Nat):(S a).length≤17080:=by
  by_cases ha:p.length < a
  · rw[h.out a ha]; simp
  · have hb:∀ x∈S a,x.aZ < 40∧x.dot < 7∧x.je < 61:=fun x hx=>by
      have:=(h.sound a x hx).small hf
      omega
    have:=nJ 17080 ((S a).map fun x=>x.aZ * 427+x.dot * 61+x.je) (yk (h.nodup a) fun x hx y hy e=>by
      have h1:=hb x hx
      have h2:=hb y hy
      cases x; cases y
      simp only at e h1 h2
      simp only[Item.mk.injEq]
      omega) (fun v hv=>by
      obtain ⟨x,hx,rfl⟩:=List.mem_map.1 hv
      have:=hb x hx
      omega)
    simpa using this
theorem Ch.box {H:View} {c:Nat} {g:al} {p:List Int} {nu:V} {S:Nat→List Item} {B n:Nat} {K:List (Nat × br)} (h:Ch H c g p nu S B n K) :
    ∃ sid mid,H c=.arr 8 [[.aI (g.az.map cF),encS g.ay,.aI (g.rules.map bf),gi g.start,encI p,nu,.sl sid 0 n 1,.sl mid 0 n 1]]:=by
  obtain ⟨sid,mid,sv,mi,mm,cl,h⟩:=h
  exact ⟨sid,mid,h.box⟩
theorem Ch.set {H:View} {c:Nat} {g:al} {p:List Int} {nu:V} {S:Nat→List Item} {B n:Nat} {K:List (Nat × br)} (h:Ch H c g p nu S B n K) {a:Nat} (ha:a < n) :
    ∃ (sid mid:Nat) (sv:Nat→V),H c=.arr 8 [[.aI (g.az.map cF),encS g.ay,.aI (g.rules.map bf),gi g.start,encI p,nu,.sl sid 0 n 1,.sl mid 0 n 1]]∧H sid=.arr 1 ((List.range n).map fun j=>[sv j])∧aU H (sv a) 3 ((S a).map qd):=by
  obtain ⟨sid,mid,sv,mi,mm,cl,h⟩:=h
  exact ⟨sid,mid,sv,h.box,h.gQ,h.set a ha⟩
def JD (g:al) (cX:Int) (S:Nat→List Item) (at_:Nat) (x:Item):Prop:=∀ R,g.rules[x.aZ]?=some R→R.right[x.dot]?=some (-1 - cX)→(⟨x.aZ,x.dot+1,x.je⟩:Item)∈S at_
theorem Sound.on {g:al} {p:List Int} {f a:Nat} {x:Item} (h:Sound g p f x) {R:aE} (hR:g.rules[x.aZ]?=some R) {s:Int} (hs:R.right[x.dot]?=some s) (hsp:Sp g p [s] f a):Sound g p a ⟨x.aZ,x.dot+1,x.je⟩:=by
  obtain ⟨R',hR',h1,h2,h3⟩:=h
  rw[hR] at hR'; simp at hR'; subst hR'
  have hlt:=(List.getElem?_eq_some_iff.1 hs).1
  refine ⟨R,hR,hlt,Nat.le_trans h2 hsp.le,?_⟩
  have:R.right.take (x.dot+1)=R.right.take x.dot ++ [s]:=by rw[List.take_add_one,hs]; rfl
  rw[this]
  exact h3.app hsp
structure Gu (g:al) (p:List Int) (S:Nat→List Item) (a:Nat) (x:Item):Prop where
  term:∀ R s,g.rules[x.aZ]?=some R→R.right[x.dot]?=some s→0≤s→ln p a s→(⟨x.aZ,x.dot+1,x.je⟩:Item)∈S (a+1)
  pred:∀ R s i R',g.rules[x.aZ]?=some R→R.right[x.dot]?=some s→s < 0→g.rules[i]?=some R'→R'.left = -1 - s→(⟨i,0,a⟩:Item)∈S a
  null:∀ R s,g.rules[x.aZ]?=some R→R.right[x.dot]?=some s→s < 0→(aB g false).getD (-1 - s).toNat false=true→(⟨x.aZ,x.dot+1,x.je⟩:Item)∈S a
  comp:∀ R,g.rules[x.aZ]?=some R→x.dot=R.right.length→x.je < a→∀ y∈S x.je,JD g R.left S a y
theorem Gu.grow {g:al} {p:List Int} {S S':Nat→List Item} {a:Nat} {x:Item} (h:Gu g p S a x) (hg:Grow a S S'):Gu g p S' a x where
  term:=fun R s h1 h2 h3 h4=>hg.mem (h.term R s h1 h2 h3 h4)
  pred:=fun R s i R' h1 h2 h3 h4 h5=>hg.mem (h.pred R s i R' h1 h2 h3 h4 h5)
  null:=fun R s h1 h2 h3 h4=>hg.mem (h.null R s h1 h2 h3 h4)
  comp:=fun R h1 h2 h3 y hy R' h4 h5=>hg.mem (h.comp R h1 h2 h3 y (by rw[(hg x.je).2 h3] at hy; exact hy) R' h4 h5)
structure px (H:View) (c sid:Nat) (u:V) (mi:Nat→Nat) (g:al) (p:List Int) (nu:V) (n k:Nat):Prop where
  box:H c=.arr 8 [[.aI (g.az.map cF),encS g.ay,.aI (g.rules.map bf),gi g.start,encI p,nu,.sl sid 0 n 1,u]]
  gQ:H sid=.arr 1 ((List.range n).map fun _=>[.emp 1])
  seen:aU H u 1 ((List.range k).map fun j=>[.mp (mi j)])
  map:∀ j,j < k→H (mi j)=.map [] 0
  inj:∀ i j,i < k→j < k→mi i=mi j→i=j
theorem px.IB {H:View} {c sid:Nat} {u:V} {mi:Nat→Nat} {g:al} {p:List Int} {nu:V} {n k:Nat} (h:px H c sid u mi g p nu n k) (hn:0 < n):owner u≠some sid:=fun e=>by
  have h1:=(h.seen.live e).1
  rw[h.gQ] at h1
  simp only[br.arr.injEq,true_and] at h1
  have h2:=congrArg (·[0]?) h1
  simp[hn] at h2
  by_cases hk:0 < k
  · simp[hk] at h2
  · have:k=0:=by omega
    subst this
    simp at h2
theorem px.JG {H:View} {c sid:Nat} {u:V} {mi:Nat→Nat} {g:al} {p:List Int} {nu:V} {n k:Nat} (h:px H c sid u mi g p nu n k):owner u≠some c:=fun e=>by
  have h1:=(h.seen.live e).1
  rw[h.box] at h1
  simp at h1
theorem px.Ko {H:View} {c sid:Nat} {u:V} {mi:Nat→Nat} {g:al} {p:List Int} {nu:V} {n:Nat} (h:px H c sid u mi g p nu n n) (hn:0 < n):Ch H c g p nu (fun _=>[]) 0 n []:=by
  obtain ⟨mid,hu,hm⟩:=h.seen.sl (by simp; omega)
  have hoff:=h.IB hn
  refine ⟨sid,mid,fun _=>.emp 1,mi,fun _=>[],fun _=>0,?_,h.gQ,hm,fun j hj=>aU.nil,fun j hj=>⟨h.map j hj,?_,fun x=>⟨fun hx=>by simp at hx,fun _=>rfl⟩⟩,?_,fun i j o _ _ h1=>by simp[owner] at h1,fun i j hi hj e=>h.inj i j hi hj e,fun q hq=>by simp at hq⟩
  · have:=h.box
    rw[hu] at this
    simpa using this
  · exact ⟨by simp,fun x hx=>by simp at hx⟩
  · rintro rfl
    rw[hu] at hoff
    exact hoff rfl
theorem px.next {H H2:View} {c sid m:Nat} {u u':V} {mi:Nat→Nat} {g:al} {p:List Int} {nu:V} {n k:Nat} (h:px H c sid u mi g p nu n k) (hn:0 < n) (hm:H m=.dead) (ho:aU H2 u' 1 (((List.range k).map fun j=>[.mp (mi j)]) ++ [[.mp m]])) (hm2:H2 m=.map [] 0)
    (hl:∀ id,H id≠.dead→owner u≠some id→H2 id=H id∧owner u'≠some id) :
    px (H2.set c (.arr 8 [[.aI (g.az.map cF),encS g.ay,.aI (g.rules.map bf),gi g.start,encI p,nu,.sl sid 0 n 1,u']])) c sid u' (fun j=>if j=k then m else mi j) g p nu n (k+1):=by
  have hC:=hl c (by rw[h.box]; simp) h.JG
  have hS:=hl sid (by rw[h.gQ]; simp) (h.IB hn)
  have hcs:sid≠c:=by rintro rfl; have:=h.box; rw[h.gQ] at this; simp at this
  have hmn:∀ j,j < k→mi j≠m:=fun j hj e=>by have:=h.map j hj; rw[e,hm] at this; simp at this
  refine ⟨by simp[View.set],?_,?_,fun j hj=>?_,fun i j hi hj e=>?_⟩
  · simp only[View.set,if_neg hcs]
    rw[hS.1]; exact h.gQ
  · refine aU.other ?_ hC.2
    have:(List.range (k+1)).map (fun j=>[V.mp (if j=k then m else mi j)])=(List.range k).map (fun j=>[V.mp (mi j)]) ++ [[.mp m]]:=by
      rw[List.range_succ,List.map_append,List.map_cons,List.map_nil,if_pos rfl]
      congr 1
      apply List.map_congr_left
      intro j hj
      rw[if_neg (by have:=List.mem_range.1 hj; omega)]
    rw[this]; exact ho
  · by_cases e:j=k
    · simp only[if_pos e]
      have:m≠c:=by rintro rfl; rw[h.box] at hm; simp at hm
      simp only[View.set,if_neg this]
      exact hm2
    · simp only[if_neg e]
      have h1:=h.map j (by omega)
      have:mi j≠c:=by intro e2; rw[e2,h.box] at h1; simp at h1
      simp only[View.set,if_neg this]
      rw[(hl (mi j) (by rw[h1]; simp) (fun e2=>by have:=(h.seen.live e2).1; rw[h1] at this; simp at this)).1]
      exact h1
  · by_cases e1:i=k
    · by_cases e2:j=k
      · omega
      · simp only[if_pos e1,if_neg e2] at e
        exact absurd e.symm (hmn j (by omega))
    · by_cases e2:j=k
      · simp only[if_neg e1,if_pos e2] at e
        exact absurd e (hmn i (by omega))
      · simp only[if_neg e1,if_neg e2] at e
        exact h.inj i j (by omega) (by omega) e
def Kept (H H':View):Prop:=∀ id,H id≠.dead→H' id=H id
theorem Kept.refl (H:View):Kept H H:=fun _ _=>rfl
theorem Kept.trans {H H' H'':View} (h:Kept H H') (h':Kept H' H''):Kept H H'':=fun id hid=>by
  have h1:=h id hid
  rw[← h1] at hid
  rw[h' id hid,h1]
theorem Kept.new {H:View} {b:Nat} {o:br} (hb:H b=.dead):Kept H (H.set b o):=fun id hid=>by
  have:id≠b:=by rintro rfl; exact hid hb
  simp[View.set,this]
def Gs (H:View) (c:Nat) (g:al) (p:List Int):Prop:=∃ nu sid mid n,H c=.arr 8 [[.aI (g.az.map cF),encS g.ay,.aI (g.rules.map bf),gi g.start,encI p,nu,.sl sid 0 n 1,.sl mid 0 n 1]]
theorem Gs.keep {H H':View} {c:Nat} {g:al} {p:List Int} (h:Gs H c g p) (hs:Kept H H'):Gs H' c g p:=by
  obtain ⟨nu,sid,mid,n,h⟩:=h
  exact ⟨nu,sid,mid,n,by rw[hs c (by rw[h]; simp)]; exact h⟩
abbrev Pt:=List (List Bool)
def Ad (P:Pt) (N M:Nat):Prop:=P.length=N∧∀ r∈P,r.length=M
def Jf (P:Pt):V:=.aI (P.map fun c=>[cB c])
theorem Ad.row {P:Pt} {N M n:Nat} (h:Ad P N M) (hn:n < N):∃ r,P[n]?=some r∧r.length=M∧P.getD n []=r:=by
  have hl:n < P.length:=by rw[h.1]; exact hn
  exact ⟨P[n],List.getElem?_eq_getElem hl,h.2 _ (List.getElem_mem hl),by simp[List.getD_eq_getElem?_getD,hl]⟩
structure jD (H:View) (I N M:Nat) (R:Nat→Nat) (P:Pt):Prop where
  top:H I=.arr 1 ((List.range N).map fun n=>[.sl (R n) 0 M 1])
  row:∀ n,n < N→H (R n)=.arr 1 (dA (P.getD n []))
  inj:∀ n n',n < N→n' < N→R n=R n'→n=n'
structure z1 (H:View) (I N M k:Nat) (R:Nat→Nat):Prop where
  top:H I=.arr 1 ((List.range N).map fun n=>[if n < k then .sl (R n) 0 M 1 else .emp 1])
  row:∀ n,n < k→H (R n)=.arr 1 (List.replicate M [gb false])
  inj:∀ n n',n < k→n' < k→R n=R n'→n=n'
def Iw (N M:Nat):Pt:=List.replicate N (List.replicate M false)
def CM (P:Pt) (n i:Nat):Pt:=P.set n ((P.getD n []).set i true)
theorem jD.JK {H:View} {I N M:Nat} {R:Nat→Nat} {P:Pt} (h:jD H I N M R P) (hP:Ad P N M) (hM:0 < M) {n:Nat} (hn:n < N):I≠R n:=fun e=>by
  have h1:=h.row n hn
  obtain ⟨r,_,h2,h3⟩:=hP.row hn
  rw[← e,h.top,h3] at h1
  simp only[br.arr.injEq,true_and] at h1
  exact tw (by omega) h1.symm fun _ _=>by simp
theorem jD.keep {H H':View} {I N M:Nat} {R:Nat→Nat} {P:Pt} (h:jD H I N M R P) (hk:∀ id,H id≠.dead→H' id=H id):jD H' I N M R P :=
  ⟨by rw[hk _ (by rw[h.top]; simp)]; exact h.top,fun n hn=>by rw[hk _ (by rw[h.row n hn]; simp)]; exact h.row n hn,h.inj⟩
theorem jD.put {H:View} {I N M:Nat} {R:Nat→Nat} {P:Pt} (h:jD H I N M R P) (hP:Ad P N M) {n i:Nat} (hn:n < N) (hi:i < M) :
    jD (H.set (R n) (.arr 1 (dA ((P.getD n []).set i true)))) I N M R (CM P n i):=by
  have hI:=h.JK hP (by omega) hn
  have hnl:n < P.length:=by rw[hP.1]; exact hn
  refine ⟨by simp only[View.set,if_neg hI]; exact h.top,fun m hm=>?_,h.inj⟩
  by_cases e:R m=R n
  · have:=h.inj m n hm hn e
    subst this
    simp only[View.set,if_true]
    congr 2
    simp[CM,List.getD_eq_getElem?_getD,hnl]
  · simp only[View.set,if_neg e]
    rw[h.row m hm]
    congr 2
    have:n≠m:=fun e2=>e (by rw[e2])
    simp[CM,List.getD_eq_getElem?_getD,List.getElem?_set,this]
theorem jD.CL {H:View} {I N M:Nat} {R:Nat→Nat} {P:Pt} (hG:jD H I N M R P) (hP:Ad P N M):dz H (.sl I 0 N 1) (Jf P):=by
  rintro h rfl
  refine dp.IC ?_
  refine .sl I 0 N 1 1 _ _ hG.top (by simp) (by simp[hP.1]) (fun n hn=>?_) (fun n j hn hj=>?_)
  · obtain ⟨r,hr,_⟩:=hP.row hn
    simp[List.getD_eq_getElem?_getD,hr,hn]
  · obtain ⟨r,hr,hrl,hrg⟩:=hP.row hn
    have e1:((P.map fun c=>[cB c]).getD n [])=[cB r]:=by simp[List.getD_eq_getElem?_getD,hr]
    have e2:(((List.range N).map fun n=>[V.sl (R n) 0 M 1]).getD (0+n) [])=[V.sl (R n) 0 M 1]:=by simp[List.getD_eq_getElem?_getD,hn]
    rw[e1] at hj ⊢
    rw[e2]
    have:j=0:=by simp at hj; omega
    subst this
    simp only[List.getD_cons_zero]
    have hro:=hG.row n hn
    rw[hrg] at hro
    have:=qT (h:=h) (id:=R n) (is:=r) hro
    rwa [hrl] at this
theorem z1.done {H:View} {I N M:Nat} {R:Nat→Nat} (h:z1 H I N M N R):jD H I N M R (Iw N M):=by
  refine ⟨?_,fun n hn=>?_,h.inj⟩
  · rw[h.top]
    congr 1
    apply List.map_congr_left
    intro n hn
    rw[if_pos (by simpa using hn)]
  · rw[h.row n hn]
    simp[Iw,List.getD_eq_getElem?_getD,hn]
theorem z1.next {H:View} {I N M k:Nat} {R:Nat→Nat} {r:Nat} (h:z1 H I N M k R) (hk:k < N) (hr:H r=.dead) :
    z1 ((H.set r (.arr 1 (List.replicate M [gb false]))).set I (.arr 1 ((List.range N).map fun n=>[if n < k+1 then .sl (if n=k then r else R n) 0 M 1 else .emp 1]))) I N M (k+1) (fun n=>if n=k then r else R n):=by
  have hI:r≠I:=by rintro rfl; rw[h.top] at hr; simp at hr
  have hRI:∀ n,n < k→R n≠I:=fun n hn e=>by
    have h1:=h.row n hn
    rw[e,h.top] at h1
    simp only[br.arr.injEq,true_and] at h1
    have h2:=congrArg (·[0]?) h1
    simp only[List.getElem?_map,List.getElem?_range (show 0 < N by omega),List.getElem?_replicate] at h2
    split at h2 <;> simp at h2
    split at h2 <;> simp at h2
  have hRr:∀ n,n < k→R n≠r:=fun n hn e=>by have:=h.row n hn; rw[e,hr] at this; simp at this
  refine ⟨by simp[View.set],fun n hn=>?_,fun n n' hn hn' e=>?_⟩
  · by_cases e:n=k
    · simp only[if_pos e,View.set,if_neg hI,if_true]
    · simp only[if_neg e,View.set,if_neg (hRI n (by omega)),if_neg (hRr n (by omega))]
      exact h.row n (by omega)
  · by_cases e1:n=k
    · by_cases e2:n'=k
      · omega
      · simp only[if_pos e1,if_neg e2] at e
        exact absurd e.symm (hRr n' (by omega))
    · by_cases e2:n'=k
      · simp only[if_neg e1,if_pos e2] at e
        exact absurd e (hRr n (by omega))
      · simp only[if_neg e1,if_neg e2] at e
        exact h.inj n n' (by omega) (by omega) e
def Ho:List Int:=[37,37,32,115,32,58,32,39,97,39,32,115,32,124,32,59]
def ky:al:=⟨[⟨⟨#[39,97,39]⟩,0,0⟩],[⟨#[115]⟩],[⟨0,[0,(-1)],0⟩,⟨0,[],(-1)⟩],0⟩
def Ha:al:=⟨[⟨⟨#[39,97,39]⟩,0,0⟩,⟨⟨#[39,98,39]⟩,0,0⟩],[⟨#[115]⟩,⟨#[110]⟩],[⟨0,[(-1),(-1)],(-1)⟩,⟨0,[(-2),0,(-2),1],1⟩,⟨0,[],(-1)⟩,⟨1,[(-2)],(-1)⟩,⟨1,[],(-1)⟩],0⟩
theorem Ji:dJ Tryz.prog 49 [y5 Ho] (sJ ky):=Ib (by kernel_rfl)
section
variable {g:al} {p:List Int} {T:Tb} {N:Nat}
end
theorem n6 (p:List Int) (i:Nat):Sp Ha p [-2] i i:=.cX (-2) [] ⟨1,[],-1⟩ i i i (by decide) (by simp[Ha]) (by decide) (.nil i) (.nil i)
theorem Hr {g:al} (hr:bu g=true) {p l:List Int} {i j:Nat} (h:Sp g p l i j):eh l (aB g true) true=true:=by
  induction h with
  | nil=>rfl
  | term s l i j h0 _ _ ih =>
    simp only[eh,List.all_cons,Bool.and_eq_true] at ih ⊢
    rw[if_pos h0]
    exact ⟨rfl,ih⟩
  | cX s l R i k j h0 hR hl _ _ ih1 ih2 =>
    have g1:=mo hr hR ih1
    rw[hl] at g1
    simp only[eh,List.all_cons,Bool.and_eq_true] at ih2 ⊢
    rw[if_neg (by omega)]
    exact ⟨g1,ih2⟩
section
variable {g r:al} {p q:List Bool} {o:List Int}
theorem c7.sp (h:c7 g p q o r) {w l:List Int} {i j:Nat} (hs:Sp g w l i j):(∀ s∈l,s < 0→-1 - s∈o)→Sp r w (l.map fun s=>if s < 0 then -1 - bk o (-1 - s) else s) i j:=by
  induction hs with
  | nil=>exact fun _=>.nil _
  | term s l i j h0 hf _ ih =>
    intro hl
    rw[List.map_cons,if_neg (by omega)]
    exact .term s _ i j h0 hf (ih fun s hs=>hl s (by simp[hs]))
  | cX s l R i k j h0 hR hle h1 _ ih1 ih2 =>
    intro hl
    have hso:=hl s (by simp) h0
    obtain ⟨R1,hR1,hk1,e1⟩:=h.from_ _ hso
    have hk:bj p q R=true:=by
      rw[bj,Bool.and_eq_true] at hk1 ⊢
      refine ⟨by rw[hle,← e1]; exact hk1.1,?_⟩
      rw[h.pe]
      exact Hr h.right h1
    have hin:=(h.kept R hR hk).2
    have hm:bd (bk o) R∈r.rules:=by rw[h.rules]; exact List.mem_map.2 ⟨R,List.mem_filter.2 ⟨hR,hk⟩,rfl⟩
    have hb:=gU hso
    rw[List.map_cons,if_pos h0]
    exact .cX _ _ (bd (bk o) R) i k j (by omega) hm (by simp only[bd]; rw[hle]; omega) (ih1 hin) (ih2 fun s hs=>hl s (by simp[hs]))
end
theorem FO {g:al} {p:List Int} {k:Nat} (hk:k≤p.length) {l:List Int} {i j:Nat} (h:Sp g p l i j):i≤k→k≤j →
    (∃ l1 l2,l=l1 ++ l2∧Sp g (p.take k) l1 i k)∨(∃ l1 s l2 a,l=l1 ++ s :: l2∧s < 0∧Sp g (p.take k) l1 i a∧a < k∧AK g (p.take k) (-1 - s) a):=by
  induction h with
  | nil i =>
    intro h1 h2
    have:i=k:=by omega
    subst this
    exact .inl ⟨[],[],rfl,.nil _⟩
  | term s l i j h0 hf hs ih =>
    intro h1 h2
    by_cases e:i=k
    · subst e; exact .inl ⟨[],s :: l,rfl,.nil _⟩
    · have hf':ln (p.take k) i s:=by
        obtain ⟨c,hc,h3⟩:=hf
        exact ⟨c,by rw[List.getElem?_take,if_pos (by omega)]; exact hc,h3⟩
      rcases ih (by omega) h2 with ⟨l1,l2,e2,h3⟩ | ⟨l1,s',l2,a,e2,h3,h4,h5,h6⟩
      · exact .inl ⟨s :: l1,l2,by rw[e2]; rfl,.term s l1 i k h0 hf' h3⟩
      · exact .inr ⟨s :: l1,s',l2,a,by rw[e2]; rfl,h3,.term s l1 i a h0 hf' h4,h5,h6⟩
  | cX s l R i m j h0 hR hl hs1 hs2 ih1 ih2 =>
    intro h1 h2
    by_cases e:i=k
    · subst e; exact .inl ⟨[],s :: l,rfl,.nil _⟩
    · by_cases hm:m≤k
      · have c1:=hs1.cut (k:=k) hm
        rcases ih2 hm h2 with ⟨l1,l2,e2,h3⟩ | ⟨l1,s',l2,a,e2,h3,h4,h5,h6⟩
        · exact .inl ⟨s :: l1,l2,by rw[e2]; rfl,.cX s l1 R i m k h0 hR hl c1 h3⟩
        · exact .inr ⟨s :: l1,s',l2,a,by rw[e2]; rfl,h3,.cX s l1 R i m a h0 hR hl c1 h4,h5,h6⟩
      · have hlen:(p.take k).length=k:=by simp; omega
        refine .inr ⟨[],s,l,i,rfl,h0,.nil _,by omega,?_⟩
        rw[← hl]
        rcases ih1 h1 (by omega) with ⟨l1,l2,e2,h3⟩ | ⟨l1,s',l2,a,e2,h3,h4,h5,h6⟩
        · exact .full R l1 l2 i hR e2 (by rw[hlen]; exact h3)
        · exact .deep R l1 l2 s' i a hR e2 h3 h4 (by rw[hlen]; exact h5) h6
theorem AK.cut {g:al} {p:List Int} {k:Nat} (hk:k≤p.length) {n:Int} {f:Nat} (h:AK g p n f):f≤k→AK g (p.take k) n f:=by
  have hlen:(p.take k).length=k:=by simp; omega
  induction h with
  | full R l1 l2 f hR e hs =>
    intro hf
    rcases FO hk hs hf hk with ⟨a1,a2,e2,h3⟩ | ⟨a1,s',a2,a,e2,h3,h4,h5,h6⟩
    · exact .full R a1 (a2 ++ l2) f hR (by rw[e,e2]; simp) (by rw[hlen]; exact h3)
    · exact .deep R a1 (a2 ++ l2) s' f a hR (by rw[e,e2]; simp) h3 h4 (by rw[hlen]; exact h5) h6
  | deep R l1 l2 s f a hR e h0 h1 h2 _ ih =>
    intro hf
    by_cases ha:a < k
    · exact .deep R l1 l2 s f a hR e h0 (h1.cut (by omega)) (by rw[hlen]; exact ha) (ih (by omega))
    · rcases FO hk h1 hf (by omega) with ⟨a1,a2,e2,h3⟩ | ⟨a1,s',a2,b,e2,h3,h4,h5,h6⟩
      · exact .full R a1 (a2 ++ s :: l2) f hR (by rw[e,e2]; simp) (by rw[hlen]; exact h3)
      · exact .deep R a1 (a2 ++ s :: l2) s' f b hR (by rw[e,e2]; simp) h3 h4 (by rw[hlen]; exact h5) h6
theorem Sp.wide {g:al} {p p':List Int} (hp:∀ i s,ln p i s→ln p' i s) {l:List Int} {i j:Nat} (h:Sp g p l i j):Sp g p' l i j:=by
  induction h with
  | nil i=>exact .nil i
  | term s l i j h0 hf _ ih=>exact .term s l i j h0 (hp _ _ hf) ih
  | cX s l R i k j h0 hR hl _ _ ih1 ih2=>exact .cX s l R i k j h0 hR hl ih1 ih2
section
variable {fit:List Int→Bool} {T b:Nat}
end
def I0 (l:List (List Int)):V:=.aI (l.map fun w=>[encI w])
abbrev Hj:=List (V × List Int)
def j7 (b:Hj):List (List V):=b.map fun x=>[x.1]
def ie (H:View) (u:V) (out:List (List Int)):Prop:=∃ b:Hj,b.map (·.2)=out∧aU H u 1 (j7 b)∧∀ x∈b,aU H x.1 1 (cU x.2)
theorem ie.nil {H:View} {k:Nat} : ie H (.emp k) []:=⟨[],rfl,.nil,by simp⟩
theorem ie.len {H:View} {u:V} {out:List (List Int)} (h:ie H u out):cT u=some out.length:=by
  obtain ⟨b,rfl,ho,_⟩:=h
  rw[ho.len]; simp[j7]
theorem ie.cells {H:View} {u:V} {out:List (List Int)} (h:ie H u out):V.cells u=[u]∧aL u=true:=by
  obtain ⟨b,_,ho,_⟩:=h
  exact ⟨ho.cells,ho.x4⟩
theorem Hq {H:View} {u:V} {b:Hj} (ho:aU H u 1 (j7 b)) (hb:∀ x∈b,aU H x.1 1 (cU x.2)) {x:V × List Int} (hx:x∈b) {id:Nat} (hid:owner x.1=some id):owner u≠some id:=by
  intro e
  have h1:=(ho.live e).1
  have h2:=((hb x hx).live hid).1
  rw[h2] at h1
  simp only[br.arr.injEq,true_and] at h1
  cases b with
  | nil=>simp at hx
  | cons y r =>
    have h3:=hb y (by simp)
    cases hw:x.2 with
    | nil=>rw[hw] at h1; simp[j7] at h1
    | cons c w =>
      rw[hw] at h1
      simp only[j7,List.map_cons,List.cons.injEq] at h1
      rcases h3 with ⟨_,k,e2⟩ | ⟨n,e2,_⟩
      · rw[e2] at h1; simp at h1
      · rw[e2] at h1; simp at h1
theorem ie.keep {H H':View} {u:V} {out:List (List Int)} (h:ie H u out) (hk:∀ id,H id≠.dead→H' id=H id):ie H' u out:=by
  obtain ⟨b,e,ho,hb⟩:=h
  exact ⟨b,e,ho.keep fun id hid=>hk id (by rw[(ho.live hid).1]; simp),fun x hx=>(hb x hx).keep fun id hid=>hk id (by rw[((hb x hx).live hid).1]; simp)⟩
theorem ie.add {H H':View} {u u' v:V} {b:Hj} {w:List Int} (ho:aU H u 1 (j7 b)) (hb:∀ x∈b,aU H x.1 1 (cU x.2)) (hv:aU H v 1 (cU w)) (hd:∀ id,owner v=some id→owner u≠some id)
    (h1:aU H' u' 1 (j7 b ++ [[v]])) (h2:Left H H' u u'):ie H' u' (b.map (·.2) ++ [w]):=by
  refine ⟨b ++ [(v,w)],by simp,by simpa [j7] using h1,fun x hx=>?_⟩
  rcases List.mem_append.1 hx with hx | hx
  · exact (hb x hx).left h2 fun id hid=>Hq ho hb hx hid
  · simp at hx; subst hx
    exact hv.left h2 hd
theorem ie.Jm {h:av} {u:V} {out:List (List Int)} (ho:ie h.view u out):dp h u (I0 out):=by
  obtain ⟨b,rfl,ho,hb⟩:=ho
  have hg:∀ i (hi:i < b.length),(j7 b).getD i []=[(b[i]).1]∧(((b.map (·.2)).map fun w=>[encI w]).getD i [])=[encI (b[i]).2]:=fun i hi=>by
    simp[j7,List.getD_eq_getElem?_getD,hi]
  refine dp.own ho (by simp[j7]) (fun i hi=>?_) (fun i j hi hj=>?_)
  · have hi':i < b.length:=by simpa [j7] using hi
    rw[(hg i hi').1,(hg i hi').2]; rfl
  · have hi':i < b.length:=by simpa [j7] using hi
    rw[(hg i hi').2] at hj ⊢
    rw[(hg i hi').1]
    have:j=0:=by simp at hj; omega
    subst this
    simp only[List.getD_cons_zero]
    exact dp.GN (hb _ (List.getElem_mem hi'))
def CC (H:View) (v:V) (p:List Int):Prop:=v=encI p∨(p≠[]∧∃ n,v=.sl n 0 p.length 1∧H n=.arr 1 (cU p))
theorem CC.CL {H:View} {v:V} {p:List Int} (h:CC H v p):dz H v (encI p):=by
  rcases h with rfl | ⟨_,n,rfl,hn⟩
  · exact .tree (fF p)
  · exact uY hn rfl
theorem CC.len {H:View} {v:V} {p:List Int} (h:CC H v p):cT v=some p.length:=by
  rcases h with rfl | ⟨_,n,rfl,hn⟩
  · simp[encI,cT]
  · rfl
def nz (H H':View) (f:Nat) (u u':V):Prop:=∀ id,H id≠.dead→id≠f→owner u≠some id→H' id=H id∧owner u'≠some id
theorem nz.refl {H:View} {f:Nat} {u:V} : nz H H f u u:=fun _ _ _ h=>⟨rfl,h⟩
theorem nz.trans {H H1 H2:View} {f:Nat} {u u1 u2:V} (h1:nz H H1 f u u1) (h2:nz H1 H2 f u1 u2):nz H H2 f u u2:=fun id hd hf hu=>by
  obtain ⟨a,b⟩:=h1 id hd hf hu
  obtain ⟨c,d⟩:=h2 id (by rw[a]; exact hd) hf b
  exact ⟨c.trans a,d⟩
theorem nz.kept {H H':View} {f:Nat} {u:V} (h:∀ id,H id≠.dead→H' id=H id):nz H H' f u u:=fun id hd _ hu=>⟨h id hd,hu⟩
theorem Bn {H:View} {u:V} {sz f z:Nat} {es:List (List V)} {e:List (List V)} (ho:aU H u sz es) (hf:H f=.arr z e) (hz:sz≠z):owner u≠some f:=fun e2=>by
  have:=(ho.live e2).1
  rw[hf] at this
  simp only[br.arr.injEq] at this
  exact hz this.1.symm
theorem ie.box {H:View} {u:V} {out:List (List Int)} {f:Nat} {e:List (List V)} {o:br} (h:ie H u out) (hf:H f=.arr 6 e):ie (H.set f o) u out:=by
  obtain ⟨b,e1,ho,hb⟩:=h
  exact ⟨b,e1,ho.other (Bn ho hf (by decide)),fun x hx=>(hb x hx).other (Bn (hb x hx) hf (by decide))⟩
section
variable {P:Program} {T:Env} {H:View} {K:V→View→Prop} {w:bS (T,H,K)} {t t1 e ty:TypeId}
end
def ug (H:View) (u:V) (l:List Int):Prop:=u=encI l∨aU H u 1 (cU l)
theorem ug.elems {H:View} {u:V} {l:List Int} (h:ug H u l):∃ rd,bB H u=some (cU l,rd):=by
  rcases h with rfl | h
  · exact ⟨[],nV _ _⟩
  generalize cU l=es0 at h
  rcases h with ⟨rfl,k,rfl⟩ | ⟨n,rfl,hn⟩
  · exact ⟨_,oh _ k⟩
  · cases es0 with
    | nil=>exact ⟨[],by simp[bB]⟩
    | cons e es =>
      exact ⟨_,by rw[show (e :: es).length=es.length+1 from rfl,uW _ n 0 es.length 1 1 _ hn (by simp),List.drop_zero,List.take_of_length_le (by simp)]⟩
theorem ug.len {H:View} {u:V} {l:List Int} (h:ug H u l):cT u=some l.length:=by
  rcases h with rfl | h
  · simp[encI,cT]
  · rw[h.len]; simp
theorem ug.keep {H H':View} {u:V} {l:List Int} (h:ug H u l) (hk:∀ id,H id≠.dead→H' id=H id):ug H' u l:=by
  rcases h with rfl | h
  · exact .inl rfl
  · exact .inr (h.keep fun id hid=>hk id (by rw[(h.live hid).1]; simp))
def G5 (H:View) (u:V) (l:List Int):Prop:=aU H u 1 (cU l)∨(l=[]∧∃ m es,u=.sl m 0 0 1∧H m=.arr 1 es)
theorem G5.live {H:View} {u:V} {l:List Int} (h:G5 H u l) {id:Nat} (hid:owner u=some id):∃ es,H id=.arr 1 es:=by
  rcases h with h | ⟨_,m,es,rfl,hm⟩
  · exact ⟨_,(h.live hid).1⟩
  · simp[owner] at hid; subst hid; exact ⟨es,hm⟩
def Ak (H:View) (u:V) (l:List Int):Prop:=u=encI l∨∃ (m:Nat) (x:Int),l=[x]∧x < 0∧u=.sl m 0 1 1∧H m=.arr 1 [[gi x]]
theorem Ak.CL {H:View} {u:V} {l:List Int} (h:Ak H u l):dz H u (encI l):=by
  rcases h with rfl | ⟨m,x,rfl,_,rfl,hm⟩
  · exact dz.tree (fF l)
  · exact uY (l:=[x]) hm rfl
theorem Ak.keep {H H':View} {u:V} {l:List Int} (h:Ak H u l) (hk:∀ id,H id≠.dead→H' id=H id):Ak H' u l:=by
  rcases h with rfl | ⟨m,x,rfl,hx,rfl,hm⟩
  · exact .inl rfl
  · exact .inr ⟨m,x,rfl,hx,rfl,by rw[hk m (by rw[hm]; simp)]; exact hm⟩
theorem FM {F:List Way} {w:Way} {n:Int} : lookW (F ++ [w]) n=match lookW F n with
    | some x=>some x
    | none=>if w.cX=n then some w else none:=by
  unfold lookW
  rw[List.find?_append]
  cases h:F.find? fun x=>x.cX == n with
  | some x=>rfl
  | none =>
    simp only[Option.none_or,List.find?_cons,List.find?_nil]
    by_cases e:w.cX=n
    · simp[e]
    · have:(w.cX == n)=false:=by simpa using e
      rw[this]; simp[e]
theorem xi {F:List Way} {n:Int} (h:n ∉ iG F):lookW F n=none:=by
  rw[lookW,List.find?_eq_none]
  intro x hx e
  exact h (List.mem_map.2 ⟨x,hx,by simpa using e⟩)
theorem m3.le {g:al} (hf:g.sd) {F:List Way} (h:m3 g F):F.length≤g.ay.length :=
  h.len ⟨hf.mI,hf.start⟩ fun R hR s hs hn=>by
    have:=hf.sym R hR s hs
    unfold nR at this
    rw[if_neg (by omega)] at this
    simpa using this
def ef (H:View) (u:V) (l:List Int):Prop:=∃ (id off:Nat) (es:List (List V)),u=.sl id off l.length 1∧H id=.arr 1 es∧off+l.length≤es.length∧(es.drop off).take l.length=cU l
theorem ef.len {H:View} {u:V} {l:List Int} (h:ef H u l):cT u=some l.length:=by
  obtain ⟨id,off,es,rfl,_⟩:=h; rfl
theorem ef.keep {H H':View} {u:V} {l:List Int} (h:ef H u l) (hk:∀ id es,H id=.arr 1 es→H' id=H id):ef H' u l:=by
  obtain ⟨id,off,es,h1,h2,h3,h4⟩:=h
  exact ⟨id,off,es,h1,by rw[hk id es h2]; exact h2,h3,h4⟩
theorem ef.fresh {H:View} {u:V} {l:List Int} (h:ef H u l) {n:Nat} {o:br} (hn:H n=.dead):ef (H.set n o) u l :=
  h.keep fun id es hid=>by
    have:id≠n:=by rintro rfl; rw[hn] at hid; simp at hid
    simp[View.set,this]
theorem ef.zt {H:View} {u:V} {l:List Int} (h:ef H u l) {q c:Nat} {es:List (V × V × Nat)} {o:br} (hq:H q=.map es c):ef (H.set q o) u l :=
  h.keep fun id es' hid=>by
    have:id≠q:=by rintro rfl; rw[hq] at hid; simp at hid
    simp[View.set,this]
theorem ef.own {H:View} {u:V} {l:List Int} (h:aU H u 1 (cU l)) (hl:l≠[]):ef H u l:=by
  rcases h with ⟨e,_⟩ | ⟨n,rfl,hn⟩
  · rw[List.map_eq_nil_iff] at e; exact absurd e hl
  · exact ⟨n,0,_,by simp,hn,by simp,by rw[List.drop_zero,List.take_of_length_le (by simp)]⟩
theorem ef.at {H:View} {u:V} {x:Int} {l:List Int} (h:ef H u (x :: l)):∃ (id off:Nat) (es:List (List V)),u=.sl id off (l.length+1) 1∧H id=.arr 1 es∧off < es.length∧es.getD off []=[gi x]∧off+(l.length+1)≤es.length:=by
  obtain ⟨id,off,es,h1,h2,h3,h4⟩:=h
  simp only[List.length_cons] at h1 h3 h4
  refine ⟨id,off,es,h1,h2,by omega,?_,h3⟩
  have h5:=congrArg (fun z=>z[0]?) h4
  simp at h5
  have:es[off]?=some (es[off]'(by omega)):=List.getElem?_eq_getElem (by omega)
  rw[this] at h5
  simp at h5
  rw[List.getD_eq_getElem?_getD,this,h5]; rfl
theorem ef.next {H:View} {id off k:Nat} {x:Int} {l:List Int} (h:ef H (.sl id off k 1) (x :: l)):ef H (.sl id (off+1) (k - 1) 1) l:=by
  obtain ⟨id',off',es,h1,h2,h3,h4⟩:=h
  simp only[V.sl.injEq,and_true] at h1
  obtain ⟨rfl,rfl,rfl⟩:=h1
  simp only[List.length_cons] at h3 h4 ⊢
  refine ⟨id,off+1,es,by simp,h2,by omega,?_⟩
  have h5:=congrArg (List.drop 1) h4
  rw[List.drop_take,List.drop_drop] at h5
  simpa using h5
def Du (H:View) (w:Option Way) (v:Option V):Prop:=match w with
  | none=>v=none
  | some w=>(w.aZ = -1∧v=some (.val (.pointer none)))∨(0≤w.aZ∧∃ p,v=some (.ptr p 0 0)∧H p=.arr 2 [[gi w.aZ,gi w.place]])
def eU (H:View) (F:List Way) (m:cG Int):Prop:=∀ n,Du H (lookW F n) (getM m n)
theorem Du.keep {H H':View} {w:Option Way} {v:Option V} (h:Du H w v) (hk:∀ id es,H id=.arr 2 es→H' id=H id):Du H' w v:=by
  cases w with
  | none=>exact h
  | some w =>
    rcases h with h | ⟨h1,p,h2,h3⟩
    · exact .inl h
    · exact .inr ⟨h1,p,h2,by rw[hk p _ h3]; exact h3⟩
theorem eU.keep {H H':View} {F:List Way} {m:cG Int} (h:eU H F m) (hk:∀ id es,H id=.arr 2 es→H' id=H id):eU H' F m:=fun n=>(h n).keep hk
theorem eU.fresh {H:View} {F:List Way} {m:cG Int} (h:eU H F m) {n:Nat} {o:br} (hn:H n=.dead):eU (H.set n o) F m :=
  h.keep fun id es hid=>by
    have:id≠n:=by rintro rfl; rw[hn] at hid; simp at hid
    simp[View.set,this]
theorem eU.zt {H:View} {F:List Way} {m:cG Int} (h:eU H F m) {q c:Nat} {es:List (V × V × Nat)} {o:br} (hq:H q=.map es c):eU (H.set q o) F m :=
  h.keep fun id es' hid=>by
    have:id≠q:=by rintro rfl; rw[hq] at hid; simp at hid
    simp[View.set,this]
theorem Dn {H:View} {u:V} {l:List Int} (h:ef H u l) {id:Nat} (hid:owner u=some id):∃ es,H id=.arr 1 es:=by
  obtain ⟨i,off,es,rfl,h2,_⟩:=h
  simp[owner] at hid; subst hid
  exact ⟨es,h2⟩
theorem eU.left {H H':View} {F:List Way} {m:cG Int} (h:eU H F m) {u u':V} {l:List Int} (ht:ef H u l) (hl:Left H H' u u'):eU H' F m :=
  h.keep fun id es hid=>(hl id (by rw[hid]; simp) (fun e=>by obtain ⟨es',h2⟩:=Dn ht e; rw[hid] at h2; simp at h2)).1
theorem eU.put {H:View} {F:List Way} {m:cG Int} (h:eU H F m) {p c k j:Nat} {n:Int} (hn:n ∉ iG F) (hp:H p=.arr 2 [[gi k,gi j]]):eU H (F ++ [⟨n,k,j⟩]) (cJ n (.ptr p 0 0) c m):=by
  intro n'
  rw[FM,y9]
  by_cases e:n=n'
  · subst e
    rw[xi hn]
    simp only[if_true,beq_self_eq_true]
    exact .inr ⟨by simp only; omega,p,rfl,hp⟩
  · have e2:(n' == n)=false:=by simpa using Ne.symm e
    rw[e2]
    have h1:=h n'
    cases hl:lookW F n' with
    | some w=>rw[hl] at h1; simpa using h1
    | none =>
      rw[hl] at h1
      simp only
      rw[if_neg e]
      simpa using h1
theorem eU.has {H:View} {F:List Way} {m:cG Int} (h:eU H F m) (n:Int):(getM m n).isSome=decide (n∈iG F):=by
  have h1:=h n
  by_cases e:n∈iG F
  · obtain ⟨x,hx,_⟩:=Hv e
    rw[hx] at h1
    rcases h1 with ⟨_,h1⟩ | ⟨_,p,h1,_⟩ <;> rw[h1] <;> simp[e]
  · rw[xi e] at h1
    have h2:getM m n=none:=h1
    rw[h2]; simp[e]
theorem ef.all {H:View} {u:V} {l:List Int} (h:ef H u l):∃ (id off:Nat) (es:List (List V)),u=.sl id off l.length 1∧H id=.arr 1 es∧off+l.length≤es.length∧∀ j,j < l.length→es.getD (off+j) []=[gi (l.getD j 0)]:=by
  obtain ⟨id,off,es,h1,h2,h3,h4⟩:=h
  refine ⟨id,off,es,h1,h2,h3,fun j hj=>?_⟩
  have h5:=congrArg (fun z=>z[j]?) h4
  simp only[List.getElem?_take,hj,if_true,List.getElem?_drop,List.getElem?_map,List.getElem?_eq_getElem hj,Option.map_some] at h5
  rw[List.getD_eq_getElem?_getD,h5,List.getD_eq_getElem?_getD,List.getElem?_eq_getElem hj]; rfl
theorem ef.take {H:View} {id off k:Nat} {l:List Int} (h:ef H (.sl id off k 1) l) {m:Nat} (hm:m≤l.length):ef H (.sl id off m 1) (l.take m):=by
  obtain ⟨id',off',es,h1,h2,h3,h4⟩:=h
  simp only[V.sl.injEq,and_true] at h1
  obtain ⟨rfl,rfl,rfl⟩:=h1
  refine ⟨id,off,es,by simp; omega,h2,by simp; omega,?_⟩
  have h5:=congrArg (List.take m) h4
  rw[List.take_take,show min m l.length=m by omega] at h5
  rw[show (l.take m).length=m by simp; omega,h5]
  exact List.map_take.symm
theorem aN.same {P:Program} {q:Bool} {f:FuncId} {vs:List V} {H:View} {K:V→View→Prop} {w:bS (H,K)} {v:V} (hc:aH P f vs H fun r H'=>H'=H∧r=v) (hk:K v H):aN P q f vs H K w:=by
  unfold aN
  cases q with
  | true =>
    simp only[if_true]
    exact (hc.mono fun r H' h=>⟨fun id _=>by rw[h.1],by rw[h.1,h.2]; exact hk⟩).DE
  | false =>
    simp only[Bool.false_eq_true,if_false]
    exact hc.mono fun r H' h=>by rw[h.1,h.2]; exact hk
def Da:Value→Value→Bool
  | .int k a,.int k' b=>decide (k=k') && decide (a=b)
  | .bool a,.bool b=>a == b
  | .string a,.string b=>eX a b
  | .pointer none,.pointer none=>true
  | _,_=>false
theorem GQ:∀ (a b:Value),Da a b=true→a=b:=by
  intro a b h
  unfold Da at h
  split at h
  · simp only[Bool.and_eq_true,decide_eq_true_eq] at h
    rw[h.1,h.2]
  · rename_i a b
    rw[show a=b by simpa using h]
  · rename_i a b
    obtain ⟨a⟩:=a
    obtain ⟨b⟩:=b
    simp only[eX,beq_iff_eq] at h
    rw[show a=b from Array.toList_inj.1 h]
  · rfl
  · simp at h
def th (q:V→V→Bool):List V→List V→Bool
  | [],[]=>true
  | a :: l,b :: m=>q a b && th q l m
  | _,_=>false
def BI (q:V→V→Bool):List (List V)→List (List V)→Bool
  | [],[]=>true
  | a :: l,b :: m=>th q a b && BI q l m
  | _,_=>false
def x9:Nat→V→V→Bool
  | 0,_,_=>false
  | k+1,a,b=>match a,b with
    | .val x,.val y=>Da x y
    | .aI x,.aI y=>BI (x9 k) x y
    | .agg x,.agg y=>th (x9 k) x y
    | .aV x,.aV y=>th (x9 k) x y
    | _,_=>false
theorem ou {q:V→V→Bool} (hq:∀ a b,q a b=true→a=b):∀ (l m:List V),th q l m=true→l=m
  | [],[],_=>rfl
  | a :: l,b :: m,h=>by
    simp only[th,Bool.and_eq_true] at h
    rw[hq a b h.1,ou hq l m h.2]
  | [],_ :: _,h=>by simp[th] at h
  | _ :: _,[],h=>by simp[th] at h
theorem EY {q:V→V→Bool} (hq:∀ a b,q a b=true→a=b):∀ (l m:List (List V)),BI q l m=true→l=m
  | [],[],_=>rfl
  | a :: l,b :: m,h=>by
    simp only[BI,Bool.and_eq_true] at h
    rw[ou hq a b h.1,EY hq l m h.2]
  | [],_ :: _,h=>by simp[BI] at h
  | _ :: _,[],h=>by simp[BI] at h
theorem Ah:∀ (k:Nat) (a b:V),x9 k a b=true→a=b
  | 0,_,_,h=>by simp[x9] at h
  | k+1,a,b,h=>by
    have ih:=Ah k
    unfold x9 at h
    split at h
    · rw[GQ _ _ h]
    · rw[EY ih _ _ h]
    · rw[ou ih _ _ h]
    · rw[ou ih _ _ h]
    · simp at h
def nI:Nat→V→Bool
  | 0,_=>false
  | k+1,v=>match v with
    | .val _=>true
    | .emp _=>true
    | .cL=>true
    | .aI es=>es.all fun e=>e.all (nI k)
    | .agg cs=>cs.all (nI k)
    | .aV cs=>cs.all (nI k)
    | _=>false
theorem pw {q:V→Bool} {l:List V} (h:l.all q=true) {i:Nat} (hi:i < l.length):q (l.getD i .any)=true:=by
  have e:l.getD i .any=l[i]:=by simp[List.getD_eq_getElem?_getD,hi]
  rw[e]
  exact List.all_eq_true.1 h _ (List.getElem_mem _)
theorem tP:∀ (k:Nat) (v:V),nI k v=true→Tree v
  | 0,_,h=>by simp[nI] at h
  | k+1,v,h=>by
    have ih:=tP k
    unfold nI at h
    split at h
    · exact .val _
    · exact .emp _
    · exact .cL
    · rename_i es
      refine .aI _ fun i j hi hj=>ih _ ?_
      have e:es.getD i []=es[i]:=by simp[List.getD_eq_getElem?_getD,hi]
      have h1:=List.all_eq_true.1 h _ (List.getElem_mem hi)
      rw[e] at hj ⊢
      exact pw h1 hj
    · exact .agg _ fun i hi=>ih _ (pw h hi)
    · exact .aV _ fun i hi=>ih _ (pw h hi)
    · simp at h
noncomputable def ph (H:View):Nat→V→Option V
  | 0,_=>none
  | k+1,v=>match v with
    | .val x=>some (.val x)
    | .emp _=>some (.aI [])
    | .aI es=>match nI 60 (.aI es) with
      | true=>some (.aI es)
      | false=>none
    | .sl id off len _=>match H id with
      | .arr _ es=>match Nat.ble (off+len) es.length with
        | true=>(wE (ph H k) ((es.drop off).take len)).map .aI
        | false=>none
      | _=>none
    | .agg cs=>(jh (ph H k) cs).map .agg
    | .aV cs=>(jh (ph H k) cs).map .aV
    | _=>none
theorem v7 (h:av):∀ (k:Nat) (v t:V),ph h.view k v=some t→Fr h v t
  | 0,v,t,hf=>by simp[ph] at hf
  | k+1,v,t,hf=>by
    have ih:=v7 h k
    simp only[ph] at hf
    split at hf
    · simp only[Option.some.injEq] at hf; subst hf; exact .tree _ (.val _)
    · simp only[Option.some.injEq] at hf; subst hf; exact .emp _
    · split at hf
      · rename_i ht
        simp only[Option.some.injEq] at hf; subst hf; exact .tree _ (tP _ _ ht)
      · simp at hf
    · rename_i id off len esz
      split at hf
      · rename_i z es hH
        split at hf
        · rename_i hle
          have hle:=Nat.le_of_ble_eq_true hle
          simp only[Option.map_eq_some_iff] at hf
          obtain ⟨es',he,rfl⟩:=hf
          obtain ⟨g1,g2⟩:=wz _ _ he
          have hlen:es'.length=len:=by rw[g1]; simp; omega
          have hg:∀ i,i < len→((es.drop off).take len).getD i []=es.getD (off+i) []:=fun i hi=>by
            simp[List.getD_eq_getElem?_getD,List.getElem?_take,hi]
          have g3:∀ i,i < len→jh (ph h.view k) (es.getD (off+i) [])=some (es'.getD i []):=fun i hi=>by
            rw[← hg i hi]; exact g2 i (by rw[← g1,hlen]; exact hi)
          exact .sl id off len esz z es es' hH hle hlen (fun i hi=>(ez _ _ (g3 i hi)).1) (fun i j hi hj=>ih _ _ ((ez _ _ (g3 i hi)).2 j (by rw[← (ez _ _ (g3 i hi)).1]; exact hj)))
        · simp at hf
      · simp at hf
    · simp only[Option.map_eq_some_iff] at hf
      obtain ⟨l,hl,rfl⟩:=hf
      obtain ⟨g1,g2⟩:=ez _ _ hl
      exact .agg _ _ g1 (fun i hi=>ih _ _ (g2 i hi))
    · simp only[Option.map_eq_some_iff] at hf
      obtain ⟨l,hl,rfl⟩:=hf
      obtain ⟨g1,g2⟩:=ez _ _ hl
      exact .aV _ _ g1 (fun i hi=>ih _ _ (g2 i hi))
    · simp at hf
theorem aC.seen {P:Program} {f:FuncId} {vs ts:List V} {t:V} (hc:aC P f ts t) (ht:∀ i,i < vs.length→Tree (vs.getD i .any)) (hl:ts.length=vs.length) (hfr:∀ i,i < vs.length→Fr [] (vs.getD i .any) (ts.getD i .any)):aC P f vs t:=by
  intro Z μ w xs hrel hz
  have hr0:eF Z (fun _=>none) w.heap (cat [] fun _=>.dead):=by
    rw[wX]
    exact ⟨fun _=>trivial,fun i j b o s o' s' _ h=>by simp at h,fun id b o s h=>by simp at h,hz,fun id b o s h=>by simp at h⟩
  have hno:∀ b,¬ fj (fun _=>none) b:=fun b ⟨_,_,_,h⟩=>by simp at h
  have hts:dd (fun b=>Z b∨fj (fun _=>none) b) μ w.heap ts xs:=⟨by rw[hl,hrel.1],fun i hi=>vl hr0 (hfr i (by omega)) (pI (hrel.2 i (by omega)) (ht i (by omega)))⟩
  refine (hc _ μ w xs hts (fun b hb=>hb.elim (hz b) (fun h=>absurd h (hno b)))).mono ?_
  rintro e w' ⟨x,Z',rfl,hv,hs,h1,h2,ho⟩
  exact ⟨x,Z',rfl,hv,hs,fun b hb=>h1 b (.inl hb),fun b hb=>(h2 b hb).elim (fun h=>h.elim .inl (fun h=>absurd h (hno b))) .inr,ho⟩
abbrev wo:=FuncId × List V × V × Bool
def wo.Ok (P:Program) (x:wo):Prop:=b7 P x.1=true∧if x.2.2.2=true then aC P x.1 x.2.1 x.2.2.1 else (dJ P x.1 x.2.1 x.2.2.1∨(aC P x.1 x.2.1 x.2.2.1∧tT x.2.2.1))
noncomputable def Hm (g:FuncId) (vs:List V) (H:View) (x:wo):Bool:=Nat.beq x.1 g && (match x.2.2.2 with
  | true=>vs.all (nI 60) && (match jh (ph (fun _=>.dead) 60) vs with
    | some ts=>th (x9 60) ts x.2.1
    | none=>false)
  | false=>match jh (ph H 60) vs with
    | some ts=>th (x9 60) ts x.2.1
    | none=>false)
noncomputable def G9 (l:List wo):rB:=fun g vs H=>(l.find? (Hm g vs H)).map fun x=>x.2.2.1
theorem F2 {P:Program} {l:List wo} (hl:∀ x∈l,x.Ok P):mQ P (G9 l):=by
  intro g vs H t h
  unfold G9 at h
  simp only[Option.map_eq_some_iff] at h
  obtain ⟨⟨f,ts,r,b⟩,hx,rfl⟩:=h
  obtain ⟨h1,h2⟩:=hl _ (List.mem_of_find?_eq_some hx)
  have hq:=List.find?_some hx
  simp only[Hm,Bool.and_eq_true] at hq
  obtain ⟨hg,hq⟩:=hq
  have hg:=Nat.eq_of_beq_eq_true hg
  simp only at hg h1 h2 hq
  subst hg
  refine ⟨h1,?_⟩
  rintro h rfl
  cases b with
  | true =>
    simp only[Bool.and_eq_true] at hq
    obtain ⟨hq1,hq2⟩:=hq
    split at hq2
    · rename_i us hus
      obtain ⟨g1,g2⟩:=ez _ _ hus
      have:=ou (Ah 60) _ _ hq2
      subst this
      simp only[if_true] at h2
      exact bo.eQ (h2.seen (fun i hi=>tP _ _ (pw hq1 hi)) g1 fun i hi=>v7 [] 60 _ _ (g2 i hi)) h
    · simp at hq2
  | false =>
    simp only at hq
    split at hq
    · rename_i us hus
      obtain ⟨g1,g2⟩:=ez _ _ hus
      have:=ou (Ah 60) _ _ hq
      subst this
      have hfr:=fun i hi=>v7 h 60 _ _ (g2 i hi)
      simp only[Bool.false_eq_true,if_false] at h2
      rcases h2 with h2 | ⟨h2,h3⟩
      · exact bo.oD h2 g1 hfr
      · exact bo.borrow h2 h3 g1 hfr
    · simp at hq
def m6 (x:Int):Bool:=decide (-9223372036854775808≤x) && decide (x≤9223372036854775807)
theorem ke {x:Int} (h:m6 x=true):bw x:=by
  unfold m6 at h
  simp only[Bool.and_eq_true,decide_eq_true_eq] at h
  exact h
def okB (g:al):Bool:=decide (g.az.length≤900) && decide (g.ay.length≤100) && decide (g.rules.length≤900) && m6 g.start && g.az.all (fun t=>m6 t.level && m6 t.assoc) && g.rules.all fun r=>m6 r.left && m6 r.prec && decide (r.right.length≤900) && r.right.all m6
theorem ID {g:al} (h:okB g=true):g.Ok∧g.Small:=by
  unfold okB at h
  simp only[Bool.and_eq_true,decide_eq_true_eq,List.all_eq_true] at h
  obtain ⟨⟨⟨⟨⟨h1,h2⟩,h3⟩,h4⟩,h5⟩,h6⟩:=h
  refine ⟨⟨by unfold aJ; omega,by unfold aJ; omega,by unfold aJ; omega,ke h4,fun t ht=>⟨ke (h5 t ht).1,ke (h5 t ht).2⟩,fun r hr=>?_⟩,⟨by omega⟩⟩
  have:=h6 r hr
  exact ⟨ke this.1.1.1,ke this.1.1.2,by unfold aJ; have:=this.1.2; omega,fun x hx=>ke (this.2 x hx)⟩
theorem nt:ky.Ok∧ky.Small:=ID (by kernel_rfl)
theorem Ih {cs:List Value} (h:cs.length=2):cs=[cs.getD 0 undef,cs.getD 1 undef]:=by
  match cs,h with
  | [a,b],_=>rfl
structure JF where
  Kj:Int
  cell:Cell
  deriving DecidableEq
structure jg where
  sym:Int
  to:Int
  deriving DecidableEq
structure IF where
  az:Int
  ay:Int
  rows:List (List JF)
  of:List Int
  gotos:List (List jg)
  to:List Int
def iF (x:jg):List V:=[gi x.sym,gi x.to]
structure IF.Ok (p:IF):Prop where
  az:bw p.az
  ay:bw p.ay
  rows:aJ p.rows
  of:aJ p.of∧∀ x∈p.of,bw x
  gotos:aJ p.gotos
  to:aJ p.to∧∀ x∈p.to,bw x
  row:∀ r∈p.rows,aJ r∧∀ c∈r,bw c.Kj∧bw c.cell.kind∧bw c.cell.n
  go:∀ r∈p.gotos,aJ r∧∀ x∈r,bw x.sym∧bw x.to
theorem H0:rh Tryz.prog 52 iF (fun c=>bw c.sym∧bw c.to):=fun enc w base sp held fuel cs x h hw=>by
  obtain ⟨hl,hf⟩:=q8 Tryz.underlying52 (by
    intro i f hi
    match i,hi with
    | 0,hi=>simp at hi; subst hi; exact ⟨rfl,by kernel_rfl⟩
    | 1,hi=>simp at hi; subst hi; exact ⟨rfl,by kernel_rfl⟩
    | n+2,hi=>simp at hi) (by kernel_rfl) h hw
  obtain ⟨a,h0,h1⟩:=hf 0 _ rfl mL
  obtain ⟨b,h2,h3⟩:=hf 1 _ rfl mL
  refine ⟨⟨a,b⟩,⟨h0,h2⟩,?_⟩
  rw[Ih hl]
  exact jf h1 (jf h3 tz)
theorem bg.as {H:View} {u:V} {sz:Nat} {es es':List (List V)} {L:List eD} (h:bg H ((u,sz,es) :: L)) (e:es=es'):bg H ((u,sz,es') :: L):=e ▸ h
structure cR where
  aZ:Int
  dot:Int
  deriving DecidableEq
def Dg (x:cR):List V:=[gi x.aZ,gi x.dot]
def Fa (l:List cR):List (List V):=l.map Dg
def zR (a b:cR):Bool:=decide (a.aZ < b.aZ) || (decide (a.aZ=b.aZ) && decide (a.dot < b.dot))
theorem Left.behind {H H':View} {q:Nat} {o:br} {u r:V} (hq:H q=.dead) (h:Left (H.set q o) H' u r):Left H H' u r:=fun a ha hau=>by
  have e:¬ a=q:=by rintro rfl; exact ha hq
  have:=h a (by simp[View.set,e]; exact ha) hau
  simpa [View.set,e] using this
def oN (g:al) (r:Int):List Int:=if r = -1 then [-1 - g.start] else (CQ g r).right
def mC (g:al) (x:cR):Int × Bool:=if x.dot=(oN g x.aZ).length then (0,false) else ((oN g x.aZ).getD x.dot.toNat 0,true)
theorem Dl {a b:cR} : zR a b=true↔a.aZ < b.aZ∨a.aZ=b.aZ∧a.dot < b.dot:=by
  simp[zR]
abbrev k6 (l:List cR):Prop:=l.Pairwise fun a b=>zR a b=true
def jG (g:al) (x:cR):Prop:=(-1≤x.aZ∧x.aZ < (g.rules.length:Int))∧0≤x.dot∧x.dot≤(oN g x.aZ).length
inductive zJ (g:al) (l:List cR):cR→Prop
  | base {x:cR} : x∈l→zJ g l x
  | step {x:cR} {s:Int} {k:Nat} {R:aE} : zJ g l x→mC g x=(s,true)→s < 0→g.rules[k]?=some R→R.left = -1 - s→zJ g l ⟨k,0⟩
theorem zJ.has {g:al} {l:List cR} (hl:∀ x∈l,jG g x) {x:cR} (h:zJ g l x):jG g x:=by
  induction h with
  | base h=>exact hl _ h
  | step _ _ _ hk _ _ =>
    have:=(List.getElem?_eq_some_iff.1 hk).1
    exact ⟨⟨by simp only; omega,by simp only; omega⟩,by simp only; omega,by simp only; omega⟩
def nK (g:al) (l:List cR) (s:Int):List cR:=(l.filter fun x=>decide (mC g x=(s,true))).map fun x=>⟨x.aZ,x.dot+1⟩
theorem GW {g:al} {l:List cR} {s:Int} {y:cR} : y∈nK g l s↔∃ x∈l,mC g x=(s,true)∧y=⟨x.aZ,x.dot+1⟩:=by
  simp only[nK,List.mem_map,List.mem_filter,decide_eq_true_eq]
  constructor
  · rintro ⟨x,⟨h1,h2⟩,rfl⟩; exact ⟨x,h1,h2,rfl⟩
  · rintro ⟨x,h1,h2,rfl⟩; exact ⟨x,⟨h1,h2⟩,rfl⟩
theorem E6 {g:al} {l:List cR} (s:Int) (h:k6 l):k6 (nK g l s):=by
  rw[k6,nK,List.pairwise_map]
  refine (h.filter _).imp ?_
  intro a b hab
  rw[Dl] at hab ⊢
  simp only; omega
theorem A9 {g:al} {x:cR} {s:Int} (h:mC g x=(s,true)):x.dot≠(oN g x.aZ).length∧(oN g x.aZ).getD x.dot.toNat 0=s:=by
  unfold mC at h
  split at h
  · simp at h
  · rename_i hd; exact ⟨hd,by simpa using h⟩
theorem GJ {g:al} {l:List cR} {s:Int} (hl:∀ x∈l,jG g x):∀ y∈nK g l s,jG g y:=by
  intro y hy
  obtain ⟨x,hx,hn,rfl⟩:=GW.1 hy
  have h1:=hl x hx
  have h2:=(A9 hn).1
  exact ⟨h1.1,by simp only; have:=h1.2; omega,by simp only; have:=h1.2; omega⟩
structure dM where
  fH:List cR
  c6:List jg
  deriving DecidableEq
abbrev uq:dM:=⟨[],[]⟩
def oq (g:al) (i:Nat):Int:=if i < g.az.length then i else -1 - ((i:Int) - g.az.length)
def findD:List dM→List cR→Int
  | [],_=>-1
  | s :: l,k=>if s.fH=k then 0 else if findD l k < 0 then -1 else findD l k+1
theorem Ab:∀ (l:List dM) (k:List cR),findD l k < l.length
  | [],_=>by simp[findD]
  | s :: l,k=>by
    have:=Ab l k
    rw[findD]; simp only[List.length_cons]; split
    · omega
    · split <;> omega
def lX (g:al) (l:List cR) (at_:Nat) (out:List dM) (i:Nat):List dM :=
  if nK g l (oq g i)=[] then out else
  if findD out (nK g l (oq g i)) < 0 then (out ++ [(⟨nK g l (oq g i),[]⟩:dM)]).modify at_ fun s=>(⟨s.fH,s.c6 ++ [⟨oq g i,out.length⟩]⟩:dM)
  else out.modify at_ fun s=>(⟨s.fH,s.c6 ++ [⟨oq g i,findD out (nK g l (oq g i))⟩]⟩:dM)
abbrev BV:=BitVec 32
def Jy (n:Int):BV:=if 0≤n∧n≤31 then BitVec.twoPow 32 n.toNat else 0
theorem IS {a b:BV} (h:∀ i,i < 32→a.getLsbD i=b.getLsbD i):a=b:=BitVec.eq_of_getLsbD_eq fun i hi=>h i hi
def JV (a b:BV):Prop:=∀ i,a.getLsbD i=true→b.getLsbD i=true
def IG (null:List Bool) (first:List BV) (rest:BV):List Int→BV
  | []=>rest
  | s :: l=>if 0≤s then Jy s else if null.getD (-1 - s).toNat false=true then first.getD (-1 - s).toNat 0 ||| IG null first rest l else first.getD (-1 - s).toNat 0
def Jd (null:List Bool) (fs:List BV) (r:aE):List BV:=fs.set r.left.toNat (fs.getD r.left.toNat 0 ||| IG null fs 0 r.right)
def It (g:al) (null:List Bool) (fs:List BV):List BV:=g.rules.foldl (Jd null) fs
def Im (g:al) (null:List Bool):List BV:=iter (It g null) g.ay.length (List.replicate g.ay.length 0)
def eW:List jg→Int→Int
  | [],_=>-1
  | e :: l,s=>if e.sym=s then e.to else eW l s
def iv (a:List dM):Int→List Int→Int × Bool
  | at_,[]=>(at_,true)
  | at_,s :: l=>if 0≤eW (a.getD at_.toNat uq).c6 s∧eW (a.getD at_.toNat uq).c6 s < a.length then iv a (eW (a.getD at_.toNat uq).c6 s) l else (0,false)
def na (a:List dM) (at_:Int) (l:List Int):Int × Bool:=if at_ < 0∨(a.length:Int)≤at_ then (0,false) else iv a at_ l
abbrev Sets:=List (List BV)
def r5 (ss:Sets) (i k:Nat):BV:=(ss.getD i []).getD k 0
def B5 (ls:List (List cR)) (ss:Sets):Prop:=ss.length=ls.length∧∀ i:Nat,(ss.getD i []).length=(ls.getD i []).length
def tn (a b:Sets):Prop:=a.length=b.length∧(∀ i:Nat,(a.getD i []).length=(b.getD i []).length)∧∀ i k,JV (r5 a i k) (r5 b i k)
theorem tn.refl {a:Sets} : tn a a:=⟨rfl,fun _=>rfl,fun _ _ _ h=>h⟩
theorem tn.trans {a b c:Sets} (h:tn a b) (k:tn b c):tn a c:=⟨h.1.trans k.1,fun i=>(h.2.1 i).trans (k.2.1 i),fun i j t ht=>k.2.2 i j t (h.2.2 i j t ht)⟩
theorem tn.CZ {a b:Sets} (h:tn a b) (k:tn b a):a=b:=by
  refine List.ext_getElem h.1 fun i h1 h2=>?_
  have e1:a.getD i []=a[i]:=by simp[List.getD_eq_getElem?_getD,h1]
  have e2:b.getD i []=b[i]:=by simp[List.getD_eq_getElem?_getD,h2]
  refine List.ext_getElem (by rw[← e1,← e2]; exact h.2.1 i) fun j h3 h4=>?_
  have g1:r5 a i j=a[i][j]:=by rw[r5,e1]; simp[List.getD_eq_getElem?_getD,h3]
  have g2:r5 b i j=b[i][j]:=by rw[r5,e2]; simp[List.getD_eq_getElem?_getD,h4]
  rw[← g1,← g2]
  refine IS fun t _=>?_
  have p:=h.2.2 i j t
  have q:=k.2.2 i j t
  cases hx:(r5 a i j).getLsbD t with
  | true=>rw[p hx]
  | false =>
    cases hy:(r5 b i j).getLsbD t with
    | false=>rfl
    | true=>rw[q hy] at hx; exact absurd hx (by simp)
theorem B5.le {ls:List (List cR)} {a b:Sets} (h:B5 ls a) (k:tn a b):B5 ls b:=⟨k.1.symm.trans h.1,fun i=>(k.2.1 i).symm.trans (h.2 i)⟩
theorem B5.eq {ls:List (List cR)} {a b:Sets} (h:B5 ls a) (k:B5 ls b):a.length=b.length∧∀ i:Nat,(a.getD i []).length=(b.getD i []).length:=⟨h.1.trans k.1.symm,fun i=>(h.2 i).trans (k.2 i).symm⟩
def IU (g:al) (x:cR):List Int:=if 0≤x.aZ then (CQ g x.aZ).right.drop (x.dot+1).toNat else []
inductive An (g:al) (null:List Bool) (a:List dM) (ls:List (List cR)):Nat→cR→Nat→Prop
  | start:(⟨-1,0⟩:cR)∈ls.getD 0 []→An g null a ls 0 ⟨-1,0⟩ g.az.length
  | move {i:Nat} {x:cR} {t:Nat} {s:Int} : An g null a ls i x t→mC g x=(s,true)→(⟨x.aZ,x.dot+1⟩:cR)∈ls.getD (na a i [s]).1.toNat []→An g null a ls (na a i [s]).1.toNat ⟨x.aZ,x.dot+1⟩ t
  | begin {i:Nat} {x:cR} {t u:Nat} {s:Int} {k:Nat} : An g null a ls i x t→mC g x=(s,true)→s < 0→k < g.rules.length→(CQ g k).left = -1 - s→(⟨k,0⟩:cR)∈ls.getD i [] →
      (IG null (Im g null) (BitVec.twoPow 32 t) (IU g x)).getLsbD u=true→An g null a ls i ⟨k,0⟩ u
theorem An.mem {g:al} {null:List Bool} {a:List dM} {ls:List (List cR)} {i:Nat} {x:cR} {t:Nat} (h:An g null a ls i x t):x∈ls.getD i []:=by
  cases h <;> assumption
section
variable {g:al} {null:List Bool} {a:List dM} {ls:List (List cR)}
end
theorem HP (l:List cR):Tree (.aI (Fa l)):=di _ _ fun x _ v hv=>by simp[Dg] at hv; rcases hv with rfl | rfl <;> exact .val _
structure Kn where
  aZ:Int
  set:BV
  deriving DecidableEq
structure Km where
  state:Int
  term:Int
  kind:Int
  aZ:Int
  other:Int
  deriving DecidableEq
structure fb (g:al) (at_ i:Nat) (out:List dM):Prop where
  fH:∀ s∈out,k6 s.fH∧s.fH≠[]∧∀ x∈s.fH,jG g x
  c6:∀ j s,out[j]?=some s→s.c6.length≤40∧(j=at_→s.c6.length≤i)∧(at_ < j→s.c6=[])
  to:∀ s∈out,∀ e∈s.c6,0≤e.to∧e.to < out.length
  sym:∀ s∈out,∀ e∈s.c6,-1000≤e.sym∧e.sym≤1000
theorem mem_modify {α:Type} {l:List α} {i:Nat} {f:α→α} {y:α} (h:y∈l.modify i f):y∈l∨∃ x,l[i]?=some x∧y=f x:=by
  obtain ⟨j,hj,e⟩:=List.mem_iff_getElem.1 h
  simp only[List.length_modify] at hj
  rw[List.getElem_modify] at e
  split at e
  · rename_i hij
    subst hij
    exact .inr ⟨l[i],List.getElem?_eq_getElem hj,e.symm⟩
  · exact .inl (e ▸ List.getElem_mem hj)
theorem FA (g:al) (l:List cR) (at_:Nat) (out:List dM) (i:Nat):out.length≤(lX g l at_ out i).length∧(lX g l at_ out i).length≤out.length+1:=by
  unfold lX
  split
  · omega
  · split
    · simp
    · simp
theorem fb.put {g:al} {at_ i:Nat} {out:List dM} (h:fb g at_ i out) (hi:i < 40) {s:Int} (hs : -1000≤s∧s≤1000) {to:Int} (ht:0≤to∧to < out.length):fb g at_ (i+1) (out.modify at_ fun x=>(⟨x.fH,x.c6 ++ [⟨s,to⟩]⟩:dM)):=by
  refine ⟨fun y hy=>?_,fun j y hy=>?_,fun y hy e he=>?_,fun y hy e he=>?_⟩
  rotate_right
  · rcases mem_modify hy with hy | ⟨x,hx,rfl⟩
    · exact h.sym y hy e he
    · rcases List.mem_append.1 he with he | he
      · exact h.sym x (List.mem_of_getElem? hx) e he
      · simp at he; subst he; exact hs
  · rcases mem_modify hy with hy | ⟨x,hx,rfl⟩
    · exact h.fH y hy
    · exact h.fH x (List.mem_of_getElem? hx)
  · rw[List.getElem?_modify] at hy
    cases hx:out[j]? with
    | none=>rw[hx] at hy; simp at hy
    | some x =>
      rw[hx] at hy
      have h1:=h.c6 j x hx
      by_cases e:at_=j
      · subst e
        simp at hy
        subst hy
        have:=h1.2.1 rfl
        refine ⟨by simp; omega,fun _=>by simp; omega,fun h=>by omega⟩
      · simp[e] at hy
        subst hy
        exact ⟨h1.1,fun h=>absurd h.symm e,h1.2.2⟩
  · rw[List.length_modify]
    rcases mem_modify hy with hy | ⟨x,hx,rfl⟩
    · exact h.to y hy e he
    · rcases List.mem_append.1 he with he | he
      · exact h.to x (List.mem_of_getElem? hx) e he
      · simp at he; subst he; exact ht
theorem fb.up {g:al} {at_ i:Nat} {out:List dM} (h:fb g at_ i out):fb g at_ (i+1) out :=
  ⟨h.fH,fun j s hs=>by have:=h.c6 j s hs; exact ⟨this.1,fun e=>by have:=this.2.1 e; omega,this.2.2⟩,h.to,h.sym⟩
theorem fb.add {g:al} {at_ i:Nat} {out:List dM} (h:fb g at_ i out) {k:List cR} (hk:k6 k∧k≠[]∧∀ x∈k,jG g x):fb g at_ i (out ++ [⟨k,[]⟩]):=by
  refine ⟨fun y hy=>?_,fun j y hy=>?_,fun y hy e he=>?_,fun y hy e he=>?_⟩
  rotate_right
  · rcases List.mem_append.1 hy with hy | hy
    · exact h.sym y hy e he
    · simp at hy; subst hy; simp at he
  · rcases List.mem_append.1 hy with hy | hy
    · exact h.fH y hy
    · simp at hy; subst hy; exact hk
  · rcases Nat.lt_or_ge j out.length with hj | hj
    · rw[List.getElem?_append_left hj] at hy; exact h.c6 j y hy
    · rw[List.getElem?_append_right hj] at hy
      cases hq:j - out.length with
      | zero=>rw[hq] at hy; simp at hy; subst hy; exact ⟨by simp,fun _=>by simp,fun _=>rfl⟩
      | succ q=>rw[hq] at hy; simp at hy
  · rcases List.mem_append.1 hy with hy | hy
    · have:=h.to y hy e he; simp; omega
    · simp at hy; subst hy; simp at he
theorem fb.step {g:al} {l:List cR} (hs:k6 l) (hl:∀ x∈l,jG g x) {at_ i:Nat} {out:List dM} (h:fb g at_ i out) (hi:i < 40):fb g at_ (i+1) (lX g l at_ out i):=by
  unfold lX
  split
  · exact h.up
  · rename_i hne
    have hb : -1000≤oq g i∧oq g i≤1000:=by unfold oq; split <;> omega
    split
    · exact (h.add ⟨E6 _ hs,hne,GJ hl⟩).put hi hb (by simp; omega)
    · have:=Ab out (nK g l (oq g i))
      exact h.put hi hb ⟨by omega,this⟩
theorem fb.next {g:al} {at_ i:Nat} {out:List dM} (h:fb g at_ i out):fb g (at_+1) 0 out :=
  ⟨h.fH,fun j s hs=>by
    have:=h.c6 j s hs
    exact ⟨this.1,fun e=>by have:=this.2.2 (by omega); simp[this],fun e=>this.2.2 (by omega)⟩,h.to,h.sym⟩
theorem fb.row {g:al} {l:List cR} (hs:k6 l) (hl:∀ x∈l,jG g x) {at_:Nat} {out:List dM} (h:fb g at_ 0 out):∀ n:Nat,n≤40→fb g at_ n ((List.range n).foldl (lX g l at_) out)∧out.length≤((List.range n).foldl (lX g l at_) out).length∧((List.range n).foldl (lX g l at_) out).length≤out.length+n
  | 0,_=>⟨h,Nat.le_refl _,Nat.le_refl _⟩
  | n+1,hn=>by
    obtain ⟨h1,h2,h3⟩:=fb.row hs hl h n (by omega)
    rw[List.range_succ,List.foldl_append]
    simp only[List.foldl_cons,List.foldl_nil]
    have:=FA g l at_ ((List.range n).foldl (lX g l at_) out) n
    exact ⟨h1.step hs hl (by omega),by omega,by omega⟩
structure Jj (g:al) (a:List dM):Prop where
  fH:∀ s∈a,k6 s.fH∧s.fH≠[]∧∀ x∈s.fH,jG g x
  c6:∀ s∈a,s.c6.length≤40
  to:∀ s∈a,∀ e∈s.c6,0≤e.to∧e.to < a.length
  sym:∀ s∈a,∀ e∈s.c6,-1000≤e.sym∧e.sym≤1000
theorem fb.ok {g:al} {at_ i:Nat} {out:List dM} (h:fb g at_ i out):Jj g out :=
  ⟨h.fH,fun s hs=>by obtain ⟨j,hj,e⟩:=List.mem_iff_getElem.1 hs; exact (h.c6 j s (by rw[List.getElem?_eq_getElem hj,e])).1,h.to,h.sym⟩
def rG (l:List jg):List (List V):=l.map iF
def iH (s:dM):List V:=[.aI (Fa s.fH),.aI (rG s.c6)]
def bY (a:List dM):V:=.aI (a.map iH)
theorem H7 (l:List jg):Tree (.aI (rG l)):=di _ _ fun x _ v hv=>by simp[iF] at hv; rcases hv with rfl | rfl <;> exact .val _
theorem C0 (s:dM):∀ v∈iH s,Tree v:=by
  intro v hv; simp[iH] at hv
  rcases hv with rfl | rfl
  · exact HP _
  · exact H7 _
theorem kA (a:List dM):Tree (bY a):=di _ _ fun x _=>C0 x
end Gv
