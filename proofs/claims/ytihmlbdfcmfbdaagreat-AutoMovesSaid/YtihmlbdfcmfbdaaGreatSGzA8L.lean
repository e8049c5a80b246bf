/-
  Part 12 of the proof: what the machine does and what the functions answer.
  Conditions: those that each lemma names.
-/
import Derived.Test.YtihmlbdfcmfbdaaGreatSGzA8K
set_option linter.unusedSimpArgs false
set_option linter.unusedVariables false
set_option maxRecDepth 100000
namespace Gv
open Go Go.Proofs
def eU:SC :=
  .seq (al [aO 14 .lss 13 12]) <|
  .seq (.cond (.tmp 14) (.skip) (.exit 0)) <|
  .seq (.block 1 (.seq (al [aa 15 13,aa 5 15]) <|
  .seq (al [aa 16 0,aa 17 5,aZ 18 3 16 17,aH 19 3 18,aa 20 1,aa 21 5,aZ 22 3 20 21,aH 23 3 22,((some 24),.op (.old (.binOp .neq 129 (.tmp 19) (.tmp 23) 129) 4))]) <|
  .cond (.tmp 24) (.seq (al [aV 4 false]) <|
  .ret) (.skip))) <|
  al [ax 25 .add 13 1,aa 13 25]
def fu:SF:=⟨.seq (al [aV 4 false]) <|
  .seq (.seq (al [aa 6 0,aM 7 6,aa 8 1,aM 9 8,aO 10 .neq 7 9]) <|
  .cond (.tmp 10) (.seq (al [aV 4 false]) <|
  .ret) (.skip)) <|
  .seq (.seq (al [aa 11 0,aM 12 11,aF 13 0]) <|
  .block 0 (.loop eU)) <|
  .seq (al [aV 4 true]) <|
  .ret,
  [.tmp 4],26⟩
theorem iF:bh Tryz.prog 162 []=some fu:=by kernel_rfl
def fO:SC :=
  .seq (al [aO 14 .lss 13 12]) <|
  .seq (.cond (.tmp 14) (.skip) (.exit 0)) <|
  .seq (.block 1 (.seq (al [aa 15 13,aa 5 15]) <|
  .seq (al [aa 16 0,aa 17 5,aZ 18 1 16 17,aq 19 18,aa 20 1,aa 21 5,aZ 22 1 20 21,aq 23 22,((some 24),.op (.iO .neq (.tmp 19) (.tmp 23)))]) <|
  .cond (.tmp 24) (.seq (al [aV 4 false]) <|
  .ret) (.skip))) <|
  al [ax 25 .add 13 1,aa 13 25]
def gg:SF:=⟨.seq (al [aV 4 false]) <|
  .seq (.seq (al [aa 6 0,aM 7 6,aa 8 1,aM 9 8,aO 10 .neq 7 9]) <|
  .cond (.tmp 10) (.seq (al [aV 4 false]) <|
  .ret) (.skip)) <|
  .seq (.seq (al [aa 11 0,aM 12 11,aF 13 0]) <|
  .block 0 (.loop fO)) <|
  .seq (al [aV 4 true]) <|
  .ret,
  [.tmp 4],26⟩
theorem jX:bh Tryz.prog 163 []=some gg:=by kernel_rfl
def ib:SC :=
  .seq (al [aO 14 .lss 13 12]) <|
  .seq (.cond (.tmp 14) (.skip) (.exit 0)) <|
  .seq (.block 1 (.seq (al [aa 15 13,aa 5 15]) <|
  .seq (al [aa 16 0,aa 17 5,aZ 18 1 16 17,aq 19 18,aa 20 1,aa 21 5,aZ 22 1 20 21,aq 23 22,aO 24 .neq 19 23]) <|
  .cond (.tmp 24) (.seq (al [aV 4 false]) <|
  .ret) (.skip))) <|
  al [ax 25 .add 13 1,aa 13 25]
def iT:SF:=⟨.seq (al [aV 4 false]) <|
  .seq (.seq (al [aa 6 0,aM 7 6,aa 8 1,aM 9 8,aO 10 .neq 7 9]) <|
  .cond (.tmp 10) (.seq (al [aV 4 false]) <|
  .ret) (.skip)) <|
  .seq (.seq (al [aa 11 0,aM 12 11,aF 13 0]) <|
  .block 0 (.loop ib)) <|
  .seq (al [aV 4 true]) <|
  .ret,
  [.tmp 4],26⟩
theorem mj:bh Tryz.prog 198 []=some iT:=by kernel_rfl
def wM:SF:=⟨.seq (al [b6 2 0,b6 3 1,aV 4 false]) <|
  .seq (.region false [⟨none,[ao 5 0 2,aq 6 5,ao 7 0 3,aq 8 7,aO 9 .eql 6 8,aa 10 9]⟩,⟨(some (10,true)),[ao 11 2 2,aq 12 11,ao 13 2 3,aq 14 13,aO 15 .eql 12 14]⟩,⟨none,[bB 16 10 15,aa 17 16]⟩,⟨(some (17,true)),[ao 18 1 2,aq 19 18,ao 20 1 3,aq 21 20,aG 22 198 [19,21]]⟩,⟨none,[bB 23 17 22,aa 4 23]⟩]) <|
  .ret,
  [.tmp 4],24⟩
theorem Ai:bh Tryz.prog 165 [2,3]=some wM:=by kernel_rfl
def cJ:SC :=
  .seq (al [aO 18 .lss 17 16]) <|
  .seq (.cond (.tmp 18) (.skip) (.exit 0)) <|
  .seq (.block 1 (.seq (al [aa 19 17,aZ 20 3 15 17,aH 21 3 20,((some 8),.op (.alloc [(.val (.int .i64 0)),(.emp 1),(.val (.int .i64 0))])),aa 7 19,(none,.op (.store 3 (.tmp 8) (.tmp 21)))]) <|
  .seq (al [aa 22 1,aa 23 7,aZ 24 3 22 23,aH 25 3 24,((some 9),.op (.alloc [(.val (.int .i64 0)),(.emp 1),(.val (.int .i64 0))])),(none,.op (.store 3 (.tmp 9) (.tmp 25)))]) <|
  .seq (al [aa 26 2,aH 27 3 8,aH 28 3 9,((some 29),.call (.tmp 26) [(.tmp 27),(.tmp 28)]),cb 30 29]) <|
  .cond (.tmp 30) (.seq (al [aV 6 false]) <|
  .ret) (.skip))) <|
  al [ax 31 .add 17 1,aa 17 31]
def cP:SF:=⟨.seq (al [aV 6 false]) <|
  .seq (.seq (al [aa 10 0,aM 11 10,aa 12 1,aM 13 12,aO 14 .neq 11 13]) <|
  .cond (.tmp 14) (.seq (al [aV 6 false]) <|
  .ret) (.skip)) <|
  .seq (.seq (al [aa 15 0,aM 16 15,aF 17 0]) <|
  .block 0 (.loop cJ)) <|
  .seq (al [aV 6 true]) <|
  .ret,
  [.tmp 6],32⟩
theorem ed:bh Tryz.prog 164 []=some cP:=by kernel_rfl
def yX:SF:=⟨.seq (al [b6 2 0,b6 3 1,aV 4 false]) <|
  .seq (.region false [⟨none,[ao 5 0 2,aq 6 5,ao 7 0 3,aq 8 7,aG 9 162 [6,8],aa 10 9]⟩,⟨(some (10,true)),[ao 11 1 2,aq 12 11,ao 13 1 3,aq 14 13,aG 15 163 [12,14]]⟩,⟨none,[bB 16 10 15,aa 17 16]⟩,⟨(some (17,true)),[ao 18 2 2,aq 19 18,ao 20 2 3,aq 21 20,cZ 22 164 [(.tmp 19),(.tmp 21),(.val (.fn 165 [] []))]]⟩,⟨none,[bB 23 17 22,aa 24 23]⟩,⟨(some (24,true)),[ao 25 3 2,aq 26 25,ao 27 3 3,aq 28 27,aO 29 .eql 26 28]⟩,⟨none,[bB 30 24 29,aa 4 30]⟩]) <|
  .ret,
  [.tmp 4],31⟩
theorem Cr:bh Tryz.prog 110 [2,3]=some yX:=by kernel_rfl
theorem Ky {α:Type} {f g:α→List V} {a b:List α} (hf:∀ x,∀ v∈f x,Tree v) (hg:∀ x,∀ v∈g x,Tree v):∀ v∈[V.aK (a.map f),V.aK (b.map g)],Tree v:=by
  intro v hv; simp at hv
  rcases hv with rfl | rfl
  · exact fD _ _ fun x _=>hf x
  · exact fD _ _ fun x _=>hg x
theorem KA (a b:List Term) (ha:bo a) (H:View):aA Tryz.prog 162 [.aK (a.map cX),.aK (b.map cX)] H fun r _=>r=gb (decide (a=b)):=by
  refine aA.of mixed iF ?_
  unfold bo at ha
  simp (disch:=omega) only [↓wr,↓reduceIte,wq,ah,ag,aj,ab,ae,af,ai,isNil,Nat.reduceEqDiff,Nat.reduceAdd,Nat.reduceLT,Nat.reduceLeDiff,Int.reduceNeg,Int.reduceToNat,reduceCtorEq,fu]
  refine au.ne (fun h=>?_) (fun h=>?_)
  · simp (disch:=omega) only [↓wr,↓reduceIte,wq,ah,ag,aj,ab,ae,af,ai,isNil,Nat.reduceEqDiff,Nat.reduceAdd,Nat.reduceLT,Nat.reduceLeDiff,Int.reduceNeg,Int.reduceToNat,reduceCtorEq]
    rw[decide_eq_false (yG (by omega))]
  · simp (disch:=omega) only [↓wr,↓reduceIte,wq,ah,ag,aj,ab,ae,af,ai,isNil,Nat.reduceEqDiff,Nat.reduceAdd,Nat.reduceLT,Nat.reduceLeDiff,Int.reduceNeg,Int.reduceToNat,reduceCtorEq]
    refine bK.up a.length (fun i T _=>a.take i=b.take i∧T 0=.aK (a.map cX)∧T 1=.aK (b.map cX)∧T 12=gi a.length∧T 13=gi i) ⟨by simp,rfl,rfl,rfl,rfl⟩ ?_
    rintro i k T H hk ⟨hi,h0,h1,h7,h8⟩
    simp (disch:=omega) only [↓wr,↓reduceIte,wq,ah,ag,aj,ab,ae,af,ai,isNil,Nat.reduceEqDiff,Nat.reduceAdd,Nat.reduceLT,Nat.reduceLeDiff,Int.reduceNeg,Int.reduceToNat,reduceCtorEq,eU,h0,h1,h7,h8]
    refine au.dec (fun hc=>?_) (fun hc=>?_)
    · have h2:a[i]?=some (a[i]'(by omega)):=List.getElem?_eq_getElem (by omega)
      have h3:b[i]?=some (b[i]'(by omega)):=List.getElem?_eq_getElem (by omega)
      generalize a[i]'(by omega)=x at h2
      generalize b[i]'(by omega)=y at h3
      simp (disch:=omega) only [↓wr,↓reduceIte,wq,ah,ag,aj,ab,ae,af,ai,isNil,Nat.reduceEqDiff,Nat.reduceAdd,Nat.reduceLT,Nat.reduceLeDiff,Int.reduceNeg,Int.reduceToNat,reduceCtorEq,h0,h1,h7,h8,List.getElem?_map,h2,h3,cX]
      refine q8 (xs:=#[.string x.name,.int .i64 x.level,.int .i64 x.assoc]) (ys:=#[.string y.name,.int .i64 y.level,.int .i64 y.assoc]) Tryz.underlying129 (by kernel_rfl) (by kernel_rfl) ?_ ?_ (EZ x y) (.inr ⟨rfl,rfl⟩) ?_
      · rfl
      · rfl
      rw[MZ]
      simp (disch:=omega) only [↓wr,↓reduceIte,wq,ah,ag,aj,ab,ae,af,ai,isNil,Nat.reduceEqDiff,Nat.reduceAdd,Nat.reduceLT,Nat.reduceLeDiff,Int.reduceNeg,Int.reduceToNat,reduceCtorEq,h0,h1,h7,h8]
      refine au.split (fun e=>?_) (fun e=>?_)
      · simp (disch:=omega) only [↓wr,↓reduceIte,wq,ah,ag,aj,ab,ae,af,ai,isNil,Nat.reduceEqDiff,Nat.reduceAdd,Nat.reduceLT,Nat.reduceLeDiff,Int.reduceNeg,Int.reduceToNat,reduceCtorEq,h0,h1,h7,h8]
        exact bE hk (by omega) ⟨v7 h2 h3 hi (by simpa using e),h0,h1,h7,rfl⟩
      · simp (disch:=omega) only [↓wr,↓reduceIte,wq,ah,ag,aj,ab,ae,af,ai,isNil,Nat.reduceEqDiff,Nat.reduceAdd,Nat.reduceLT,Nat.reduceLeDiff,Int.reduceNeg,Int.reduceToNat,reduceCtorEq,h0,h1,h7,h8]
        rw[decide_eq_false (CA h2 h3 (by simpa using e))]
    · simp (disch:=omega) only [↓wr,↓reduceIte,wq,ah,ag,aj,ab,ae,af,ai,isNil,Nat.reduceEqDiff,Nat.reduceAdd,Nat.reduceLT,Nat.reduceLeDiff,Int.reduceNeg,Int.reduceToNat,reduceCtorEq,h0,h1,h7,h8]
      rw[decide_eq_true (yL (by omega) (by omega) hi)]
theorem Ke (a b:List ByteArray) (ha:bo a) (H:View):aA Tryz.prog 163 [encS a,encS b] H fun r _=>r=gb (decide (a=b)):=by
  refine aA.of mixed jX ?_
  unfold bo at ha
  simp (disch:=omega) only [↓wr,↓reduceIte,wq,ah,ag,aj,ab,ae,af,ai,isNil,Nat.reduceEqDiff,Nat.reduceAdd,Nat.reduceLT,Nat.reduceLeDiff,Int.reduceNeg,Int.reduceToNat,reduceCtorEq,gg,encS]
  refine au.ne (fun h=>?_) (fun h=>?_)
  · simp (disch:=omega) only [↓wr,↓reduceIte,wq,ah,ag,aj,ab,ae,af,ai,isNil,Nat.reduceEqDiff,Nat.reduceAdd,Nat.reduceLT,Nat.reduceLeDiff,Int.reduceNeg,Int.reduceToNat,reduceCtorEq]
    rw[decide_eq_false (yG (by omega))]
  · simp (disch:=omega) only [↓wr,↓reduceIte,wq,ah,ag,aj,ab,ae,af,ai,isNil,Nat.reduceEqDiff,Nat.reduceAdd,Nat.reduceLT,Nat.reduceLeDiff,Int.reduceNeg,Int.reduceToNat,reduceCtorEq]
    refine bK.up a.length (fun i T _=>a.take i=b.take i∧T 0=encS a∧T 1=encS b∧T 12=gi a.length∧T 13=gi i) ⟨by simp,rfl,rfl,rfl,rfl⟩ ?_
    rintro i k T H hk ⟨hi,h0,h1,h7,h8⟩
    simp (disch:=omega) only [↓wr,↓reduceIte,wq,ah,ag,aj,ab,ae,af,ai,isNil,Nat.reduceEqDiff,Nat.reduceAdd,Nat.reduceLT,Nat.reduceLeDiff,Int.reduceNeg,Int.reduceToNat,reduceCtorEq,fO,h0,h1,h7,h8,encS]
    refine au.dec (fun hc=>?_) (fun hc=>?_)
    · have h2:a[i]?=some (a[i]'(by omega)):=List.getElem?_eq_getElem (by omega)
      have h3:b[i]?=some (b[i]'(by omega)):=List.getElem?_eq_getElem (by omega)
      generalize a[i]'(by omega)=x at h2
      generalize b[i]'(by omega)=y at h3
      simp (disch:=omega) only [↓wr,↓reduceIte,wq,ah,ag,aj,ab,ae,af,ai,isNil,Nat.reduceEqDiff,Nat.reduceAdd,Nat.reduceLT,Nat.reduceLeDiff,Int.reduceNeg,Int.reduceToNat,reduceCtorEq,h0,h1,h7,h8,encS,List.getElem?_map,h2,h3,J7]
      refine au.split (fun e=>?_) (fun e=>?_)
      · simp (disch:=omega) only [↓wr,↓reduceIte,wq,ah,ag,aj,ab,ae,af,ai,isNil,Nat.reduceEqDiff,Nat.reduceAdd,Nat.reduceLT,Nat.reduceLeDiff,Int.reduceNeg,Int.reduceToNat,reduceCtorEq,h0,h1,h7,h8]
        exact bE hk (by omega) ⟨v7 h2 h3 hi (by simpa using e),h0,h1,h7,rfl⟩
      · simp (disch:=omega) only [↓wr,↓reduceIte,wq,ah,ag,aj,ab,ae,af,ai,isNil,Nat.reduceEqDiff,Nat.reduceAdd,Nat.reduceLT,Nat.reduceLeDiff,Int.reduceNeg,Int.reduceToNat,reduceCtorEq,h0,h1,h7,h8]
        rw[decide_eq_false (CA h2 h3 (by simpa using e))]
    · simp (disch:=omega) only [↓wr,↓reduceIte,wq,ah,ag,aj,ab,ae,af,ai,isNil,Nat.reduceEqDiff,Nat.reduceAdd,Nat.reduceLT,Nat.reduceLeDiff,Int.reduceNeg,Int.reduceToNat,reduceCtorEq,h0,h1,h7,h8]
      rw[decide_eq_true (yL (by omega) (by omega) hi)]
theorem Ka (a b:List Int) (ha:bo a) (H:View):aA Tryz.prog 198 [encI a,encI b] H fun r _=>r=gb (decide (a=b)):=by
  refine aA.of mixed mj ?_
  unfold bo at ha
  simp (disch:=omega) only [↓wr,↓reduceIte,wq,ah,ag,aj,ab,ae,af,ai,isNil,Nat.reduceEqDiff,Nat.reduceAdd,Nat.reduceLT,Nat.reduceLeDiff,Int.reduceNeg,Int.reduceToNat,reduceCtorEq,iT,encI]
  refine au.ne (fun h=>?_) (fun h=>?_)
  · simp (disch:=omega) only [↓wr,↓reduceIte,wq,ah,ag,aj,ab,ae,af,ai,isNil,Nat.reduceEqDiff,Nat.reduceAdd,Nat.reduceLT,Nat.reduceLeDiff,Int.reduceNeg,Int.reduceToNat,reduceCtorEq]
    rw[decide_eq_false (yG (by omega))]
  · simp (disch:=omega) only [↓wr,↓reduceIte,wq,ah,ag,aj,ab,ae,af,ai,isNil,Nat.reduceEqDiff,Nat.reduceAdd,Nat.reduceLT,Nat.reduceLeDiff,Int.reduceNeg,Int.reduceToNat,reduceCtorEq]
    refine bK.up a.length (fun i T _=>a.take i=b.take i∧T 0=encI a∧T 1=encI b∧T 12=gi a.length∧T 13=gi i) ⟨by simp,rfl,rfl,rfl,rfl⟩ ?_
    rintro i k T H hk ⟨hi,h0,h1,h7,h8⟩
    simp (disch:=omega) only [↓wr,↓reduceIte,wq,ah,ag,aj,ab,ae,af,ai,isNil,Nat.reduceEqDiff,Nat.reduceAdd,Nat.reduceLT,Nat.reduceLeDiff,Int.reduceNeg,Int.reduceToNat,reduceCtorEq,ib,h0,h1,h7,h8,encI]
    refine au.dec (fun hc=>?_) (fun hc=>?_)
    · have h2:a[i]?=some (a[i]'(by omega)):=List.getElem?_eq_getElem (by omega)
      have h3:b[i]?=some (b[i]'(by omega)):=List.getElem?_eq_getElem (by omega)
      generalize a[i]'(by omega)=x at h2
      generalize b[i]'(by omega)=y at h3
      simp (disch:=omega) only [↓wr,↓reduceIte,wq,ah,ag,aj,ab,ae,af,ai,isNil,Nat.reduceEqDiff,Nat.reduceAdd,Nat.reduceLT,Nat.reduceLeDiff,Int.reduceNeg,Int.reduceToNat,reduceCtorEq,h0,h1,h7,h8,encI,List.getElem?_map,h2,h3]
      refine au.ne (fun e=>?_) (fun e=>?_)
      · simp (disch:=omega) only [↓wr,↓reduceIte,wq,ah,ag,aj,ab,ae,af,ai,isNil,Nat.reduceEqDiff,Nat.reduceAdd,Nat.reduceLT,Nat.reduceLeDiff,Int.reduceNeg,Int.reduceToNat,reduceCtorEq,h0,h1,h7,h8]
        rw[decide_eq_false (CA h2 h3 e)]
      · simp (disch:=omega) only [↓wr,↓reduceIte,wq,ah,ag,aj,ab,ae,af,ai,isNil,Nat.reduceEqDiff,Nat.reduceAdd,Nat.reduceLT,Nat.reduceLeDiff,Int.reduceNeg,Int.reduceToNat,reduceCtorEq,h0,h1,h7,h8]
        exact bE hk (by omega) ⟨v7 h2 h3 hi e,h0,h1,h7,rfl⟩
    · simp (disch:=omega) only [↓wr,↓reduceIte,wq,ah,ag,aj,ab,ae,af,ai,isNil,Nat.reduceEqDiff,Nat.reduceAdd,Nat.reduceLT,Nat.reduceLeDiff,Int.reduceNeg,Int.reduceToNat,reduceCtorEq,h0,h1,h7,h8]
      rw[decide_eq_true (yL (by omega) (by omega) hi)]
theorem IS (a b:List Term) (ha:bo a):aC Tryz.prog 162 [.aK (a.map cX),.aK (b.map cX)] (gb (decide (a=b))):=aC.val (Ky qm qm) (KA a b ha)
theorem JU (a b:List ByteArray) (ha:bo a):aC Tryz.prog 163 [encS a,encS b] (gb (decide (a=b))):=aC.val (by
  intro v hv; simp at hv
  rcases hv with rfl | rfl <;> exact ur _) (Ke a b ha)
theorem Jh (a b:List Int) (ha:bo a):aC Tryz.prog 198 [encI a,encI b] (gb (decide (a=b))):=aC.val (by
  intro v hv; simp at hv
  rcases hv with rfl | rfl <;> exact iY _) (Ka a b ha)
theorem Le (x y:aL) (hx:bo x.right):aC Tryz.prog 165 [.agg (bm x),.agg (bm y)] (gb (decide (x=y))):=by
  refine aC.val (by
    intro v hv; simp at hv
    rcases hv with rfl | rfl <;> exact cI _ (fS _)) fun H=>?_
  rw[Lr]
  refine aA.of mixed Ai ?_
  simp (disch:=omega) only [↓wr,↓reduceIte,wq,ah,ag,aj,ab,ae,af,ai,isNil,Nat.reduceEqDiff,Nat.reduceAdd,Nat.reduceLT,Nat.reduceLeDiff,Int.reduceNeg,Int.reduceToNat,reduceCtorEq,wM,bm,encI]
  repeat' (first | (refine au.dec (fun _=>?_) (fun _=>?_)) | (refine au.eq (fun _=>?_) (fun _=>?_)) | (refine au.ne (fun _=>?_) (fun _=>?_)) | (refine au.split (fun _=>?_) (fun _=>?_)) | (refine aE.pure (Jh x.right y.right hx) (by kernel_rfl) ?_) | (simp (disch:=omega) only [↓wr,↓reduceIte,wq,ah,ag,aj,ab,ae,af,ai,isNil,Nat.reduceEqDiff,Nat.reduceAdd,Nat.reduceLT,Nat.reduceLeDiff,Int.reduceNeg,Int.reduceToNat,reduceCtorEq,bm]))
  all_goals simp[*]
theorem Es (a b:List aL) (ha:bo a) (hr:∀ r∈a,bo r.right) (H:View):aA Tryz.prog 164 [.aK (a.map bm),.aK (b.map bm),.fn 165 [] []] H fun r _=>r=gb (decide (a=b)):=by
  refine aA.of mixed ed ?_
  unfold bo at ha
  simp (disch:=omega) only [↓wr,↓reduceIte,wq,ah,ag,aj,ab,ae,af,ai,isNil,Nat.reduceEqDiff,Nat.reduceAdd,Nat.reduceLT,Nat.reduceLeDiff,Int.reduceNeg,Int.reduceToNat,reduceCtorEq,cP]
  refine au.ne (fun h=>?_) (fun h=>?_)
  · simp (disch:=omega) only [↓wr,↓reduceIte,wq,ah,ag,aj,ab,ae,af,ai,isNil,Nat.reduceEqDiff,Nat.reduceAdd,Nat.reduceLT,Nat.reduceLeDiff,Int.reduceNeg,Int.reduceToNat,reduceCtorEq]
    rw[decide_eq_false (yG (by omega))]
  · simp (disch:=omega) only [↓wr,↓reduceIte,wq,ah,ag,aj,ab,ae,af,ai,isNil,Nat.reduceEqDiff,Nat.reduceAdd,Nat.reduceLT,Nat.reduceLeDiff,Int.reduceNeg,Int.reduceToNat,reduceCtorEq]
    refine bK.up a.length (fun i T _=>a.take i=b.take i∧T 15=.aK (a.map bm)∧T 1=.aK (b.map bm)∧T 2=.fn 165 [] []∧T 16=gi a.length∧T 17=gi i) ⟨by simp,rfl,rfl,rfl,rfl,rfl⟩ ?_
    rintro i k T H hk ⟨hi,h0,h1,h6,h7,h8⟩
    simp (disch:=omega) only [↓wr,↓reduceIte,wq,ah,ag,aj,ab,ae,af,ai,isNil,Nat.reduceEqDiff,Nat.reduceAdd,Nat.reduceLT,Nat.reduceLeDiff,Int.reduceNeg,Int.reduceToNat,reduceCtorEq,cJ,h0,h1,h6,h7,h8]
    refine au.dec (fun hc=>?_) (fun hc=>?_)
    · have h2:a[i]?=some (a[i]'(by omega)):=List.getElem?_eq_getElem (by omega)
      have h3:b[i]?=some (b[i]'(by omega)):=List.getElem?_eq_getElem (by omega)
      have hm:a[i]'(by omega)∈a:=List.getElem_mem _
      generalize a[i]'(by omega)=x at h2 hm
      generalize b[i]'(by omega)=y at h3
      have hsx:=hr x hm
      simp (disch:=omega) only [↓wr,↓reduceIte,wq,ah,ag,aj,ab,ae,af,ai,isNil,Nat.reduceEqDiff,Nat.reduceAdd,Nat.reduceLT,Nat.reduceLeDiff,Int.reduceNeg,Int.reduceToNat,reduceCtorEq,h0,h1,h6,h7,h8,List.getElem?_map,h2,h3,bm,encI]
      intro n hn
      try simp (disch:=omega) only [↓wr,↓reduceIte,wq,ah,ag,aj,ab,ae,af,ai,isNil,Nat.reduceEqDiff,Nat.reduceAdd,Nat.reduceLT,Nat.reduceLeDiff,Int.reduceNeg,Int.reduceToNat,reduceCtorEq,h0,h1,h6,h7,h8,List.getElem?_map,h2,h3,bm,encI]
      intro m hmd
      have hmn:=(fA hmd fW).1
      try simp (disch:=omega) only [↓wr,↓reduceIte,wq,ah,ag,aj,ab,ae,af,ai,isNil,Nat.reduceEqDiff,Nat.reduceAdd,Nat.reduceLT,Nat.reduceLeDiff,Int.reduceNeg,Int.reduceToNat,reduceCtorEq,h0,h1,h6,h7,h8,List.getElem?_map,h2,h3,bm,encI,hmn,hmn.symm]
      refine aE.pure (Le x y hsx) (by kernel_rfl) ?_
      simp (disch:=omega) only [↓wr,↓reduceIte,wq,ah,ag,aj,ab,ae,af,ai,isNil,Nat.reduceEqDiff,Nat.reduceAdd,Nat.reduceLT,Nat.reduceLeDiff,Int.reduceNeg,Int.reduceToNat,reduceCtorEq,h0,h1,h6,h7,h8]
      refine au.split (fun e=>?_) (fun e=>?_)
      · simp (disch:=omega) only [↓wr,↓reduceIte,wq,ah,ag,aj,ab,ae,af,ai,isNil,Nat.reduceEqDiff,Nat.reduceAdd,Nat.reduceLT,Nat.reduceLeDiff,Int.reduceNeg,Int.reduceToNat,reduceCtorEq,h0,h1,h6,h7,h8]
        exact bE hk (by omega) ⟨v7 h2 h3 hi (by simpa using e),h0,h1,h6,h7,rfl⟩
      · simp (disch:=omega) only [↓wr,↓reduceIte,wq,ah,ag,aj,ab,ae,af,ai,isNil,Nat.reduceEqDiff,Nat.reduceAdd,Nat.reduceLT,Nat.reduceLeDiff,Int.reduceNeg,Int.reduceToNat,reduceCtorEq,h0,h1,h6,h7,h8]
        rw[decide_eq_false (CA h2 h3 (by simpa using e))]
    · simp (disch:=omega) only [↓wr,↓reduceIte,wq,ah,ag,aj,ab,ae,af,ai,isNil,Nat.reduceEqDiff,Nat.reduceAdd,Nat.reduceLT,Nat.reduceLeDiff,Int.reduceNeg,Int.reduceToNat,reduceCtorEq,h0,h1,h6,h7,h8]
      rw[decide_eq_true (yL (by omega) (by omega) hi)]
theorem ET (a b:List aL) (ha:bo a) (hr:∀ r∈a,bo r.right):aC Tryz.prog 164 [.aK (a.map bm),.aK (b.map bm),.fn 165 [] []] (gb (decide (a=b))):=aC.val (by
  intro v hv; simp at hv
  rcases hv with rfl | rfl | rfl
  · exact fD _ _ fun x _=>fS x
  · exact fD _ _ fun x _=>fS x
  · exact AQ (by simp) (by simp)) (Es a b ha hr)
theorem KS (g k:an) (hg:g.Ok):aC Tryz.prog 110 [.agg (aw g),.agg (aw k)] (gb (decide (g=k))):=by
  refine aC.val (Ju g k) fun H=>?_
  rw[K6]
  refine aA.of mixed Cr ?_
  simp (disch:=omega) only [↓wr,↓reduceIte,wq,ah,ag,aj,ab,ae,af,ai,isNil,Nat.reduceEqDiff,Nat.reduceAdd,Nat.reduceLT,Nat.reduceLeDiff,Int.reduceNeg,Int.reduceToNat,reduceCtorEq,yX,aw,encS]
  repeat' (first | (refine au.dec (fun _=>?_) (fun _=>?_)) | (refine au.eq (fun _=>?_) (fun _=>?_)) | (refine au.ne (fun _=>?_) (fun _=>?_)) | (refine au.split (fun _=>?_) (fun _=>?_)) | (refine aE.pure (IS g.av k.av hg.av) (by kernel_rfl) ?_) | (refine aE.pure (JU g.az k.az hg.az) (by kernel_rfl) ?_) | (refine aE.pure (ET g.rules k.rules hg.rules (fun r hr=>(hg.aD r hr).2.2.1)) (by kernel_rfl) ?_) | (simp (disch:=omega) only [↓wr,↓reduceIte,wq,ah,ag,aj,ab,ae,af,ai,isNil,Nat.reduceEqDiff,Nat.reduceAdd,Nat.reduceLT,Nat.reduceLeDiff,Int.reduceNeg,Int.reduceToNat,reduceCtorEq,aw,encS]))
  all_goals simp_all [M6]
def BK:SF:=⟨.seq (al [b6 1 0,aV 2 false]) <|
  .seq (al [aH 7 4 1,aG 8 109 [7],aa 6 8,ct 9 0 6,ct 10 1 6,ct 11 2 6,((some 3),.op (.alloc [(.emp 1),(.emp 1),(.emp 1),(.val (.int .i64 0))])),(none,.op (.store 4 (.tmp 3) (.tmp 9))),aa 4 10,aa 5 11]) <|
  .seq (.region false [⟨none,[aa 12 5,ax 13 .eql 12 0,aa 14 13]⟩,⟨(some (14,true)),[aH 15 4 1,aH 16 4 3,aG 17 110 [15,16]]⟩,⟨none,[bB 18 14 17,aa 2 18]⟩]) <|
  .ret,
  [.tmp 2],19⟩
theorem C7:bh Tryz.prog 61 [1]=some BK:=by kernel_rfl
theorem Ek (g:an) (hg:g.Ok) (hs:g.Small):aC Tryz.prog 61 [.agg (aw g)] (gb (isRed g)):=by
  refine aC.val (iC g) fun H=>?_
  refine aA.of mixed C7 ?_
  simp (disch:=omega) only [↓wr,↓reduceIte,wq,ah,ag,aj,ab,ae,af,ai,isNil,Nat.reduceEqDiff,Nat.reduceAdd,Nat.reduceLT,Nat.reduceLeDiff,Int.reduceNeg,Int.reduceToNat,reduceCtorEq,BK,aw,encS]
  refine aE.pure (Hf g hg hs).pure (by kernel_rfl) ?_
  unfold isRed
  generalize gE g=x
  obtain ⟨k,il,e⟩:=x
  simp (disch:=omega) only [↓wr,↓reduceIte,wq,ah,ag,aj,ab,ae,af,ai,isNil,Nat.reduceEqDiff,Nat.reduceAdd,Nat.reduceLT,Nat.reduceLeDiff,Int.reduceNeg,Int.reduceToNat,reduceCtorEq,zV,aw,encS]
  intro n hn
  refine au.eq (fun h=>?_) (fun h=>?_)
  · simp (disch:=omega) only [↓wr,↓reduceIte,wq,ah,ag,aj,ab,ae,af,ai,isNil,Nat.reduceEqDiff,Nat.reduceAdd,Nat.reduceLT,Nat.reduceLeDiff,Int.reduceNeg,Int.reduceToNat,reduceCtorEq,zV,aw,encS]
    refine aE.pure (KS g k hg) (by kernel_rfl) ?_
    simp (disch:=omega) only [↓wr,↓reduceIte,wq,ah,ag,aj,ab,ae,af,ai,isNil,Nat.reduceEqDiff,Nat.reduceAdd,Nat.reduceLT,Nat.reduceLeDiff,Int.reduceNeg,Int.reduceToNat,reduceCtorEq]
    simp[h]
  · simp (disch:=omega) only [↓wr,↓reduceIte,wq,ah,ag,aj,ab,ae,af,ai,isNil,Nat.reduceEqDiff,Nat.reduceAdd,Nat.reduceLT,Nat.reduceLeDiff,Int.reduceNeg,Int.reduceToNat,reduceCtorEq]
    simp[h]
def Oi:an:=⟨[⟨⟨#[39,97,39]⟩,0,0⟩,⟨⟨#[39,98,39]⟩,0,0⟩,⟨⟨#[39,99,39]⟩,0,0⟩,⟨⟨#[39,100,39]⟩,0,0⟩],[⟨#[115]⟩,⟨#[117]⟩,⟨#[118]⟩],[⟨0,[0,(-2)],0⟩,⟨0,[1],1⟩,⟨0,[],(-1)⟩,⟨1,[(-2),2],2⟩,⟨2,[3,(-1)],3⟩],0⟩
def NI:an:=⟨Oi.av,[⟨#[115]⟩],[⟨0,[1],1⟩,⟨0,[],(-1)⟩],0⟩
theorem lT:isRed NI=true:=by kernel_rfl
structure an.PH (g:an):Prop where
  av:g.av.length≤40
  az:g.az.length≤40
  rules:g.rules.length≤60
  right:∀ r∈g.rules,r.right.length≤20
theorem dx.fr {h:aB} {v t:V} (f:dx h v t):Fr h v t:=by
  induction f with
  | val v=>exact .tree _ (.val _)
  | emp k=>exact .emp k
  | sl id off len esz z es es' h1 h2 h3 h4 _ ih=>exact .sl id off len esz z es es' h1 h2 h3 h4 ih
  | agg cs cs' h1 _ ih=>exact .agg cs cs' h1 ih
  | bc cs cs' h1 _ ih=>exact .bc cs cs' h1 ih
def yY (p:bQ):List V:=[gi p.aD,gi p.cB,gi p.rules,gi p.av]
abbrev Hd (P:List bQ):V:=.aK (P.map yY)
theorem Hh (P:List bQ):Tree (Hd P):=fD _ _ fun x _ v hv=>by
  simp[yY] at hv
  rcases hv with rfl | rfl | rfl | rfl <;> exact .val _
theorem Hm (p:bQ):∀ v∈yY p,Tree v:=by
  intro v hv; simp[yY] at hv
  rcases hv with rfl | rfl | rfl | rfl <;> exact .val _
def xw (H:View) (u:V) (P:List bQ):Prop:=u=Hd P∨aN H u 4 (P.map yY)
theorem xw.H8 {H:View} {u:V} {P:List bQ} (h:xw H u P):eK H u (Hd P):=by
  rcases h with rfl | h
  · exact eK.tree (Hh P)
  · exact eK.own h fun e he v hv=>by
      obtain ⟨p,_,rfl⟩:=List.mem_map.1 he
      exact Hm p v hv
theorem xw.keep {H H':View} {u:V} {P:List bQ} (h:xw H u P) (hk:∀ id,owner u=some id→H' id=H id):xw H' u P:=h.imp id fun h=>h.keep hk
theorem xw.live {H:View} {u:V} {P:List bQ} (h:xw H u P) {id:Nat} (hid:owner u=some id):H id≠.dead:=by
  rcases h with rfl | h
  · simp[owner] at hid
  · rw[(h.live hid).1]; simp
def L7 (s:Int × Int):Prop:=(0≤s.1∧s.1≤1000)∧(0≤s.2∧s.2≤1000)
def vW (g:an):List (Int × Int):=(dB g).map vf
theorem wi:vf py=(0,0):=by decide
theorem LQ (g:an) (m:Nat):px (vW g) m=vf (cg (dB g) m):=by
  simp only[vW,px,cg,List.getD_eq_getElem?_getD,List.getElem?_map]
  cases (dB g)[m]? <;> rfl
theorem NM (g:an) (m:Nat):L7 (vf (cg (dB g) m)):=by
  have h:lA (cg (dB g) m):=uI g _ m
  unfold lA at h
  unfold L7 vf; simp only; omega
def ij (g:an) (j i:Nat) (S:List (Int × Int)):Prop:=S.length=g.az.length∧∀ m,px S m=if (cg (dB g) m).cB≤j∨((cg (dB g) m).cB=j+1∧m < i) then vf (cg (dB g) m) else (0,0)
theorem ij.ok {g:an} {j i:Nat} {S:List (Int × Int)} (h:ij g j i S) (m:Nat):L7 (px S m):=by
  rw[h.2 m]; split
  · exact NM g m
  · unfold L7; simp
theorem MW {S:List (Int × Int)} {i m:Nat} {v:Int × Int} (hm:m < S.length):px (S.set i v) m=if i=m then v else px S m:=by
  simp only[px,List.getD_eq_getElem?_getD,List.getElem?_set]
  split
  · rename_i e; subst e; simp[hm]
  · rfl
theorem ij.next {g:an} {j i:Nat} {S:List (Int × Int)} (h:ij g j i S) (hi:(cg (dB g) i).cB≠(j:Int)+1):ij g j (i+1) S:=⟨h.1,fun m=>by
  rw[h.2 m]
  by_cases e:m=i
  · subst e
    by_cases h1:(cg (dB g) m).cB≤j
    · rw[if_pos (.inl h1),if_pos (.inl h1)]
    · rw[if_neg (by omega),if_neg (by omega)]
  · congr 1
    simp only[eq_iff_iff]
    constructor <;> rintro (h1 | h1) <;> first | exact .inl h1 | exact .inr ⟨h1.1,by omega⟩⟩
theorem ij.put {g:an} {j i:Nat} {S:List (Int × Int)} (h:ij g j i S) (hi:(cg (dB g) i).cB=(j:Int)+1) (hn:i < g.az.length):ij g j (i+1) (S.set i (vf (cg (dB g) i))):=⟨by simp[h.1],fun m=>by
  by_cases hm:m < S.length
  · rw[MW hm]
    by_cases e:i=m
    · subst e; rw[if_pos rfl,if_pos (.inr ⟨hi,by omega⟩)]
    · rw[if_neg e,h.2 m]
      congr 1
      simp only[eq_iff_iff]
      constructor <;> rintro (h1 | h1) <;> first | exact .inl h1 | exact .inr ⟨h1.1,by omega⟩
  · have:cg (dB g) m=py:=rq (by rw[u9,← h.1]; omega)
    have e:px (S.set i (vf (cg (dB g) i))) m=(0,0):=by
      simp only[px,List.getD_eq_getElem?_getD]; rw[List.getElem?_eq_none (by simp; omega)]; rfl
    rw[e,this]
    split <;> simp[wi]⟩
theorem ij.OR {g:an} {j:Nat} {S:List (Int × Int)} (h:ij g j g.az.length S):ij g (j+1) 0 S:=⟨h.1,fun m=>by
  rw[h.2 m]
  by_cases hm:m < g.az.length
  · congr 1
    simp only[eq_iff_iff]
    push_cast
    constructor
    · rintro (h1 | h1) <;> left <;> omega
    · rintro (h1 | h1)
      · omega
      · omega
  · have:cg (dB g) m=py:=rq (by rw[u9]; omega)
    rw[this]; split <;> split <;> simp[wi]⟩
theorem ij.start (g:an):ij g 0 0 (List.replicate g.az.length (0,0)):=⟨by simp,fun m=>by
  have e:px (List.replicate g.az.length (0,0)) m=(0,0):=by
    simp only[px,List.getD_eq_getElem?_getD,List.getElem?_replicate]
    split <;> rfl
  rw[e]
  split
  · rename_i h
    by_cases hk:cL (dB g) m
    · have:=(wO hk).1; omega
    · rw[C4 hk]; simp[wi]
  · rfl⟩
theorem ij.done {g:an} {S:List (Int × Int)} (h:ij g g.az.length 0 S):S=vW g:=by
  apply List.ext_getElem (by simp[h.1,vW,u9])
  intro m h1 h2
  have e:S[m]=px S m:=by simp[px,List.getD_eq_getElem?_getD,h1]
  have e2:(vW g)[m]=px (vW g) m:=by simp[px,List.getD_eq_getElem?_getD,h2]
  rw[e,e2,h.2 m,LQ]
  by_cases hk:cL (dB g) m
  · rw[if_pos (.inl (wO hk).2)]
  · rw[C4 hk]; split <;> simp[wi]
def ke {κ:Type} (kv:κ→V) (m:bY κ):List (V × V × Nat):=m.map fun x=>(kv x.1,x.2.1,x.2.2)
structure PK {κ:Type} [BEq κ] (P:Program) (kt:TypeId) (kv:κ→V):Prop where
  find:∀ k e m,lI P kt (kv k) e (ke kv m)=some (iZ k m)
  same:∀ k,sameKey (kv k) (kv k)=true
def Cv {κ:Type} (m:bY κ) (c:Nat):Prop:=(m.map (·.2.2)).Nodup∧∀ x∈m,x.2.2 < c
def lF {κ:Type} [BEq κ] (m:bY κ) (k:κ):Option Nat:=(m.find? fun x=>k == x.1).map (·.2.2)
section
variable {κ:Type} [BEq κ] [LawfulBEq κ] {kv:κ→V}
theorem DS (k:κ):∀ m:bY κ,match iZ k m with
    | some i=>∃ x,m[i]?=some x∧x.1=k∧getM m k=some x.2.1∧lF m k=some x.2.2∧(ke kv m)[i]?=some (kv k,x.2.1,x.2.2)∧∀ v c,(ke kv m).set i (kv k,v,x.2.2)=ke kv (bR k v c m)∧lF (bR k v c m) k=some x.2.2∧(bR k v c m).map (·.2.2)=m.map (·.2.2)
    | none=>getM m k=none∧lF m k=none∧∀ v c,ke kv m ++ [(kv k,v,c)]=ke kv (bR k v c m)∧lF (bR k v c m) k=some c∧(bR k v c m).map (·.2.2)=m.map (·.2.2) ++ [c]
  | []=>⟨rfl,rfl,fun v c=>⟨rfl,by simp[bR,lF],rfl⟩⟩
  | x :: r=>by
    have ih:=DS k r
    simp only[iZ]
    cases hk:k == x.1 with
    | true =>
      have hx:x.1=k:=(eq_of_beq hk).symm
      exact ⟨x,rfl,hx,by simp[getM,hk],by simp[lF,hk],by simp[ke,hx],fun v c=>by simp[bR,hk,ke,lF]⟩
    | false =>
      simp only[Bool.false_eq_true,if_false]
      cases hi:iZ k r with
      | some i =>
        rw[hi] at ih
        obtain ⟨y,h1,h2,h3,h4,h5,h6⟩:=ih
        refine ⟨y,by simpa using h1,h2,by simpa [getM,hk] using h3,by simpa [lF,hk] using h4,by simpa [ke] using h5,fun v c=>?_⟩
        obtain ⟨g1,g2,g3⟩:=h6 v c
        exact ⟨by simp only[ke] at g1 ⊢; simp[bR,hk,g1],by simpa [bR,hk,lF] using g2,by simp[bR,hk,g3]⟩
      | none =>
        rw[hi] at ih
        refine ⟨by simpa [getM,hk] using ih.1,by simpa [lF,hk] using ih.2.1,fun v c=>?_⟩
        obtain ⟨g1,g2,g3⟩:=ih.2.2 v c
        exact ⟨by simp only[ke] at g1 ⊢; simp[bR,hk,g1],by simpa [bR,hk,lF] using g2,by simp[bR,hk,g3]⟩
theorem Cv.put {m:bY κ} {c:Nat} (h:Cv m c) (k:κ) (v:V):Cv (bR k v c m) (c+1):=by
  have hg:=DS (kv:=fun _=>V.any) k m
  cases hj:iZ k m with
  | some j =>
    rw[hj] at hg
    obtain ⟨y,_,_,_,_,_,h6⟩:=hg
    have e:=(h6 v c).2.2
    refine ⟨by rw[e]; exact h.1,fun x hx=>?_⟩
    have:x.2.2∈m.map (·.2.2):=by rw[← e]; exact List.mem_map.2 ⟨x,hx,rfl⟩
    obtain ⟨y,hy,e2⟩:=List.mem_map.1 this
    have:=h.2 y hy
    omega
  | none =>
    rw[hj] at hg
    have e:=(hg.2.2 v c).2.2
    refine ⟨?_,fun x hx=>?_⟩
    · rw[e,List.nodup_append]
      refine ⟨h.1,by simp,fun a ha b hb=>?_⟩
      simp at hb; subst hb
      obtain ⟨y,hy,rfl⟩:=List.mem_map.1 ha
      have:=h.2 y hy
      omega
    · have:x.2.2∈m.map (·.2.2) ++ [c]:=by rw[← e]; exact List.mem_map.2 ⟨x,hx,rfl⟩
      rcases List.mem_append.1 this with h1 | h1
      · obtain ⟨y,hy,e2⟩:=List.mem_map.1 h1
        have:=h.2 y hy
        omega
      · simp at h1; omega
variable {P:Program} {T:Env} {H:View} {kt et t ty:TypeId}
end
def tb (x:Item):List V:=[aj x.aD,aj x.dot,aj x.kM]
def OT (x:Item):V:=.agg (tb x)
structure PJ (P:Program) (kt:TypeId):Prop where
  ty:∃ f0 f1 f2:Field,P.underlying kt=some (.struct #[f0,f1,f2])∧f0.name≠ "_" ∧ f1.name≠ "_" ∧ f2.name≠ "_" ∧ P.underlying f0.type=some (.int .i64)∧P.underlying f1.type=some (.int .i64)∧P.underlying f2.type=some (.int .i64)∧f0.offset=0∧f1.offset=1∧f2.offset=2
  held:P.stoodInHeld kt=false
def Pw (m:bY Item) (s:List Item) (B:Nat):Prop:=∀ x,(x∈s→∃ k:Nat,getM m x=some (aj k)∧1≤k∧k≤B)∧(x ∉ s→getM m x=none)
structure pP (H:View) (c sid mid:Nat) (sv:Nat→V) (mi:Nat→Nat) (mm:Nat→bY Item) (cl:Nat→Nat) (g:an) (p:List Int) (nu:V) (S S1:Nat→List Item) (B n:Nat) (K:List (Nat × bI)):Prop where
  box:H c=.arr 8 [[.aK (g.av.map cX),encS g.az,.aK (g.rules.map bm),gi g.start,encI p,nu,.sl sid 0 n 1,.sl mid 0 n 1]]
  jq:H sid=.arr 1 ((List.range n).map fun j=>[sv j])
  seen:H mid=.arr 1 ((List.range n).map fun j=>[.mp (mi j)])
  set:∀ j,j < n→aN H (sv j) 3 ((S j).map tb)
  map:∀ j,j < n→H (mi j)=.map (ke OT (mm j)) (cl j)∧Cv (mm j) (cl j)∧Pw (mm j) (S1 j) B
  ne:sid≠mid
  xu:∀ i j o,i < n→j < n→owner (sv i)=some o→owner (sv j)=some o→i=j
  Hk:∀ i j,i < n→j < n→mi i=mi j→i=j
  off:∀ q∈K,H q.1=q.2∧q.2≠.dead∧q.1≠sid∧(∀ j,j < n→q.1≠mi j)∧∀ j,j < n→owner (sv j)≠some q.1
def Ch (H:View) (c:Nat) (g:an) (p:List Int) (nu:V) (S:Nat→List Item) (B n:Nat) (K:List (Nat × bI)):Prop:=∃ sid mid sv mi mm cl,pP H c sid mid sv mi mm cl g p nu S S B n K
def ui (S:Nat→List Item) (a:Nat) (x:Item):Nat→List Item:=fun b=>if b=a then (if x∈S a then S a else S a ++ [x]) else S b
theorem Ch.more {H:View} {c:Nat} {g:an} {p:List Int} {nu:V} {S:Nat→List Item} {B B' n:Nat} {K:List (Nat × bI)} (h:Ch H c g p nu S B n K) (hB:B≤B'):Ch H c g p nu S B' n K:=by
  obtain ⟨sid,mid,sv,mi,mm,cl,h⟩:=h
  refine ⟨sid,mid,sv,mi,mm,cl,h.box,h.jq,h.seen,h.set,fun j hj=>⟨(h.map j hj).1,(h.map j hj).2.1,fun x=>⟨fun hx=>?_,((h.map j hj).2.2 x).2⟩⟩,h.ne,h.xu,h.Hk,h.off⟩
  obtain ⟨k,h1,h2,h3⟩:=((h.map j hj).2.2 x).1 hx
  exact ⟨k,h1,h2,by omega⟩
theorem Ch.drop {H:View} {c:Nat} {g:an} {p:List Int} {nu:V} {S:Nat→List Item} {B n:Nat} {q:Nat × bI} {K:List (Nat × bI)} (h:Ch H c g p nu S B n (q :: K)):Ch H c g p nu S B n K:=by
  obtain ⟨sid,mid,sv,mi,mm,cl,h⟩:=h
  exact ⟨sid,mid,sv,mi,mm,cl,h.box,h.jq,h.seen,h.set,h.map,h.ne,h.xu,h.Hk,fun q hq=>h.off q (by simp[hq])⟩
theorem pP.new {H:View} {c sid mid:Nat} {sv:Nat→V} {mi:Nat→Nat} {mm:Nat→bY Item} {cl:Nat→Nat} {g:an} {p:List Int} {nu:V} {S S1:Nat→List Item} {B n:Nat} {K:List (Nat × bI)} (h:pP H c sid mid sv mi mm cl g p nu S S1 B n K)
    {b:Nat} {o:bI} (hb:H b=.dead) (ho:o≠.dead):pP (H.set b o) c sid mid sv mi mm cl g p nu S S1 B n ((b,o) :: K):=by
  have keep:∀ id,H id≠.dead→(H.set b o) id=H id:=fun id hid=>by
    have e:id≠b:=by rintro rfl; exact hid hb
    simp[View.set,e]
  have live:∀ {id},H id≠.dead→b≠id:=fun hid e=>hid (e ▸ hb)
  refine ⟨?_,?_,?_,fun j hj=>?_,fun j hj=>?_,h.ne,h.xu,h.Hk,fun q hq=>?_⟩
  · rw[keep _ (by rw[h.box]; simp)]; exact h.box
  · rw[keep _ (by rw[h.jq]; simp)]; exact h.jq
  · rw[keep _ (by rw[h.seen]; simp)]; exact h.seen
  · exact (h.set j hj).fresh hb
  · rw[keep _ (by rw[(h.map j hj).1]; simp)]; exact h.map j hj
  · rcases List.mem_cons.1 hq with rfl | hq
    · refine ⟨by simp[View.set],ho,live (by rw[h.jq]; simp),fun j hj=>live (by rw[(h.map j hj).1]; simp),fun j hj=>?_⟩
      have:=(h.set j hj).ne hb
      exact this
    · obtain ⟨h1,h2,h3⟩:=h.off q hq
      exact ⟨by rw[keep _ (by rw[h1]; exact h2)]; exact h1,h2,h3⟩
theorem Ch.new {H:View} {c:Nat} {g:an} {p:List Int} {nu:V} {S:Nat→List Item} {B n b:Nat} {o:bI} {K:List (Nat × bI)} (h:Ch H c g p nu S B n K) (hb:H b=.dead) (ho:o≠.dead):Ch (H.set b o) c g p nu S B n ((b,o) :: K):=by
  obtain ⟨sid,mid,sv,mi,mm,cl,h⟩:=h
  exact ⟨sid,mid,sv,mi,mm,cl,h.new hb ho⟩
theorem Ch.kept {H:View} {c:Nat} {g:an} {p:List Int} {nu:V} {S:Nat→List Item} {B n:Nat} {K:List (Nat × bI)} (h:Ch H c g p nu S B n K):∀ q∈K,H q.1=q.2:=by
  obtain ⟨sid,mid,sv,mi,mm,cl,h⟩:=h
  exact fun q hq=>(h.off q hq).1
theorem pP.Pz {H H':View} {c sid mid:Nat} {sv:Nat→V} {mi:Nat→Nat} {mm:Nat→bY Item} {cl:Nat→Nat} {g:an} {p:List Int} {nu:V} {S S1:Nat→List Item} {B n:Nat} {K:List (Nat × bI)} (h:pP H c sid mid sv mi mm cl g p nu S S1 B n K)
    {at0:Nat} (ha:at0 < n) {x:Item} (hx:¬ x∈S at0) {u':V} (ho:aN H' u' 3 ((S at0).map tb ++ [tb x])) (hl:Left H H' (sv at0) u') :
    pP (H'.set sid (.arr 1 (((List.range n).map fun j=>[sv j]).set at0 [u']))) c sid mid (fun j=>if j=at0 then u' else sv j) mi mm cl g p nu (ui S at0 x) S1 B n K:=by
  have own:∀ {id},owner (sv at0)=some id→H id=.arr 3 ((S at0).map tb):=fun hid=>((h.set at0 ha).live hid).1
  have n1:owner (sv at0)≠some sid:=fun e=>by
    have:=own e
    rw[h.jq] at this; simp at this
  have keep:∀ id,H id≠.dead→owner (sv at0)≠some id→H' id=H id∧owner u'≠some id:=hl
  have ns:=keep sid (by rw[h.jq]; simp) n1
  have keep2:∀ id,H id≠.dead→owner (sv at0)≠some id→id≠sid→(H'.set sid (.arr 1 (((List.range n).map fun j=>[sv j]).set at0 [u']))) id=H id:=fun id h1 h2 h3=>by
    simp only[View.set,if_neg h3]; exact (keep id h1 h2).1
  have no3:∀ {id o},H id=o→o≠.arr 3 ((S at0).map tb)→owner (sv at0)≠some id:=fun h1 h2 e=>h2 (by rw[← h1]; exact own e)
  refine ⟨?_,?_,?_,fun j hj=>?_,fun j hj=>?_,h.ne,fun i j o hi hj h1 h2=>?_,h.Hk,fun q hq=>?_⟩
  · rw[keep2 c (by rw[h.box]; simp) (no3 h.box (by simp)) (by rintro rfl; have:=h.box; rw[h.jq] at this; simp at this)]; exact h.box
  · simp only[View.set,if_true]
    congr 1
    rw[Gz]
    apply List.map_congr_left
    intro j _
    split <;> rfl
  · rw[keep2 mid (by rw[h.seen]; simp) (no3 h.seen (by simp)) h.ne.symm]; exact h.seen
  · by_cases e:j=at0
    · subst e
      simp only[if_true,ui,if_neg hx,List.map_append,List.map_cons,List.map_nil]
      exact ho.other ns.2
    · simp only[if_neg e,ui]
      refine (h.set j hj).keep fun id hid=>?_
      have hlv:=((h.set j hj).live hid).1
      refine keep2 id (by rw[hlv]; simp) (fun e2=>e (h.xu j at0 id hj ha hid e2)) ?_
      rintro rfl; rw[h.jq] at hlv; simp at hlv
  · obtain ⟨g1,g2,g3⟩:=h.map j hj
    refine ⟨?_,g2,g3⟩
    rw[keep2 (mi j) (by rw[g1]; simp) (no3 g1 (by simp)) (by intro e; rw[e,h.jq] at g1; simp at g1)]; exact g1
  · by_cases e1:i=at0
    · by_cases e2:j=at0
      · omega
      · simp only[if_pos e1,if_neg e2] at h1 h2
        exfalso
        have hlv:=((h.set j hj).live h2).1
        exact (keep o (by rw[hlv]; simp) (fun e3=>e2 (h.xu j at0 o hj ha h2 e3))).2 h1
    · by_cases e2:j=at0
      · simp only[if_neg e1,if_pos e2] at h1 h2
        exfalso
        have hlv:=((h.set i hi).live h1).1
        exact (keep o (by rw[hlv]; simp) (fun e3=>e1 (h.xu i at0 o hi ha h1 e3))).2 h2
      · simp only[if_neg e1,if_neg e2] at h1 h2
        exact h.xu i j o hi hj h1 h2
  · obtain ⟨h1,h2,h3,h4,h5⟩:=h.off q hq
    refine ⟨?_,h2,h3,h4,fun j hj=>?_⟩
    · rw[keep2 q.1 (by rw[h1]; exact h2) (h5 at0 ha) h3]; exact h1
    · by_cases e:j=at0
      · simp only[if_pos e]; exact (keep q.1 (by rw[h1]; exact h2) (h5 at0 ha)).2
      · simp only[if_neg e]; exact h5 j hj
inductive Eh (g:an) (p:List Int):Int→Nat→Prop
  | start:Eh g p g.start 0
  | step (R:aL) (l1 l2:List Int) (n:Int) (f a:Nat):R∈g.rules→R.right=l1 ++ (-1 - n) :: l2→Eh g p R.left f→Sp g p l1 f a→Eh g p n a
def Ha (g:an) (p:List Int) (x:Item):Prop:=∃ R,g.rules[x.aD]?=some R∧Eh g p R.left x.kM
inductive CY (g:an) (p:List Int):Int→Nat→Prop
  | full (R:aL) (l1 l2:List Int) (f:Nat):R∈g.rules→R.right=l1 ++ l2→Sp g p l1 f p.length→CY g p R.left f
  | deep (R:aL) (l1 l2:List Int) (s:Int) (f a:Nat):R∈g.rules→R.right=l1 ++ s :: l2→s < 0→Sp g p l1 f a→a < p.length→CY g p (-1 - s) a→CY g p R.left f
theorem Eh.len {g:an} {p:List Int} {n:Int} {a:Nat} (h:Eh g p n a):a≤p.length:=by
  induction h with
  | start=>omega
  | step _ _ _ _ _ _ _ _ _ hs ih=>exact hs.len ih
theorem ME {l:List Int} {d:Nat} {s:Int} (h:l[d]?=some s):l=l.take d ++ s :: l.drop (d+1):=by
  have h1:=(List.getElem?_eq_some_iff.1 h)
  obtain ⟨hl,he⟩:=h1
  rw[← he]
  simp
theorem Ha.ask {g:an} {p:List Int} {a:Nat} {x:Item} (h:Ha g p x) (hs:Sound g p a x) {R:aL} (hR:g.rules[x.aD]?=some R) {s:Int} (hd:R.right[x.dot]?=some s):Eh g p (-1 - s) a:=by
  obtain ⟨R1,h1,h2⟩:=h
  obtain ⟨R2,h3,_,_,h4⟩:=hs
  rw[hR] at h1 h3; simp at h1 h3; subst h1; subst h3
  refine .step R (R.right.take x.dot) (R.right.drop (x.dot+1)) (-1 - s) x.kM a (List.mem_of_getElem? hR) ?_ h2 h4
  rw[show -1 - (-1 - s)=s by omega]
  exact ME hd
theorem Sp.cut {g:an} {p:List Int} {k:Nat} {l:List Int} {i j:Nat} (h:Sp g p l i j):j≤k→Sp g (p.take k) l i j:=by
  induction h with
  | nil i=>exact fun _=>.nil i
  | term s l i j h0 hf h ih =>
    intro hk
    have:=h.le
    obtain ⟨c,hc,h2⟩:=hf
    exact .term s l i j h0 ⟨c,by rw[List.getElem?_take,if_pos (by omega)]; exact hc,h2⟩ (ih hk)
  | dK s l R i m j h0 hR hl h1 h2 ih1 ih2 =>
    intro hk
    have:=h2.le
    exact .dK s l R i m j h0 hR hl (ih1 (by omega)) (ih2 hk)
def Grow (a:Nat) (S S':Nat→List Item):Prop:=∀ b,S b <+: S' b∧(b < a→S' b=S b)
structure Good (g:an) (p:List Int) (S:Nat→List Item):Prop where
  nodup:∀ a,(S a).Nodup
  sound:∀ a x,x∈S a→Sound g p a x
  top:∀ a x,x∈S a→Ha g p x
  out:∀ a,p.length < a→S a=[]
theorem Grow.refl (a:Nat) (S:Nat→List Item):Grow a S S:=fun _=>⟨List.prefix_refl _,fun _=>rfl⟩
theorem Grow.trans {a:Nat} {S S' S'':Nat→List Item} (h:Grow a S S') (h':Grow a S' S''):Grow a S S'':=fun b=>⟨(h b).1.trans (h' b).1,fun hb=>((h' b).2 hb).trans ((h b).2 hb)⟩
theorem Grow.mem {a b:Nat} {S S':Nat→List Item} (h:Grow a S S') {x:Item} (hx:x∈S b):x∈S' b:=(h b).1.subset hx
theorem Good.put {g:an} {p:List Int} {S:Nat→List Item} (h:Good g p S) {a:Nat} {x:Item} (hx:Sound g p a x) (ht:Ha g p x) (ha:a≤p.length):Good g p (ui S a x):=by
  refine ⟨fun b=>?_,fun b y hy=>?_,fun b y hy=>?_,fun b hb=>?_⟩
  · unfold ui
    split
    · rename_i e
      subst e
      split
      · exact h.nodup _
      · rename_i hn
        rw[List.nodup_append]
        refine ⟨h.nodup _,by simp,fun u hu v hv=>?_⟩
        simp at hv
        rintro rfl
        exact hn (hv ▸ hu)
    · exact h.nodup _
  · unfold ui at hy
    split at hy
    · rename_i e
      subst e
      split at hy
      · exact h.sound _ _ hy
      · rcases List.mem_append.1 hy with hy | hy
        · exact h.sound _ _ hy
        · simp at hy; subst hy; exact hx
    · exact h.sound _ _ hy
  · unfold ui at hy
    split at hy
    · rename_i e
      subst e
      split at hy
      · exact h.top _ _ hy
      · rcases List.mem_append.1 hy with hy | hy
        · exact h.top _ _ hy
        · simp at hy; subst hy; exact ht
    · exact h.top _ _ hy
  · unfold ui
    rw[if_neg (by omega)]
    exact h.out b hb
theorem qM:∀ (N:Nat) (l:List Nat),l.Nodup→(∀ x∈l,x < N)→l.length≤N
  | 0,l,_,h=>by
    cases l with
    | nil=>simp
    | cons x l=>exact absurd (h x (by simp)) (by omega)
  | N+1,l,hd,h=>by
    by_cases e:N∈l
    · have h1:=qM N (l.erase N) (hd.erase N) fun x hx=>by
        have h2:=(hd.mem_erase_iff).1 hx
        have:=h x h2.2
        have:=h2.1
        omega
      rw[List.length_erase_of_mem e] at h1
      omega
    · have:=qM N l hd fun x hx=>by
        have:=h x hx
        have:x≠N:=by rintro rfl; exact e hx
        omega
      omega
theorem Ca {α:Type} {f:α→Nat} : ∀ {l:List α},l.Nodup→(∀ x∈l,∀ y∈l,f x=f y→x=y)→(l.map f).Nodup
  | [],_,_=>by simp
  | x :: l,hd,h=>by
    rw[List.nodup_cons] at hd
    rw[List.map_cons,List.nodup_cons]
    refine ⟨fun hm=>?_,Ca hd.2 fun a ha b hb=>h a (by simp[ha]) b (by simp[hb])⟩
    obtain ⟨y,hy,e⟩:=List.mem_map.1 hm
    have:=h y (by simp[hy]) x (by simp) e
    exact hd.1 (this ▸ hy)
theorem Sound.small {g:an} (hf:g.dg) {p:List Int} {a:Nat} {x:Item} (h:Sound g p a x):x.aD < 40∧x.dot < 7∧x.kM≤a:=by
  obtain ⟨R,hR,hd,hfr,_⟩:=h
  have h1:=(List.getElem?_eq_some_iff.1 hR).1
  have h2:=hf.rules
  have h3:=hf.right R (List.mem_of_getElem? hR)
  omega
theorem Good.len {g:an} (hf:g.dg) {p:List Int} (hp:p.length≤60) {S:Nat→List Item} (h:Good g p S) (a:Nat):(S a).length≤17080:=by
  by_cases ha:p.length < a
  · rw[h.out a ha]; simp
  · have hb:∀ x∈S a,x.aD < 40∧x.dot < 7∧x.kM < 61:=fun x hx=>by
      have:=(h.sound a x hx).small hf
      omega
    have:=qM 17080 ((S a).map fun x=>x.aD * 427+x.dot * 61+x.kM) (Ca (h.nodup a) fun x hx y hy e=>by
      have h1:=hb x hx
      have h2:=hb y hy
      cases x; cases y
      simp only at e h1 h2
      simp only[Item.mk.injEq]
      omega) (fun v hv=>by
      obtain ⟨x,hx,rfl⟩:=List.mem_map.1 hv
      have:=hb x hx
      omega)
    simpa using this
theorem Ch.box {H:View} {c:Nat} {g:an} {p:List Int} {nu:V} {S:Nat→List Item} {B n:Nat} {K:List (Nat × bI)} (h:Ch H c g p nu S B n K) :
    ∃ sid mid,H c=.arr 8 [[.aK (g.av.map cX),encS g.az,.aK (g.rules.map bm),gi g.start,encI p,nu,.sl sid 0 n 1,.sl mid 0 n 1]]:=by
  obtain ⟨sid,mid,sv,mi,mm,cl,h⟩:=h
  exact ⟨sid,mid,h.box⟩
theorem Ch.set {H:View} {c:Nat} {g:an} {p:List Int} {nu:V} {S:Nat→List Item} {B n:Nat} {K:List (Nat × bI)} (h:Ch H c g p nu S B n K) {a:Nat} (ha:a < n) :
    ∃ (sid mid:Nat) (sv:Nat→V),H c=.arr 8 [[.aK (g.av.map cX),encS g.az,.aK (g.rules.map bm),gi g.start,encI p,nu,.sl sid 0 n 1,.sl mid 0 n 1]]∧H sid=.arr 1 ((List.range n).map fun j=>[sv j])∧aN H (sv a) 3 ((S a).map tb):=by
  obtain ⟨sid,mid,sv,mi,mm,cl,h⟩:=h
  exact ⟨sid,mid,sv,h.box,h.jq,h.set a ha⟩
def OZ (g:an) (dK:Int) (S:Nat→List Item) (at_:Nat) (x:Item):Prop:=∀ R,g.rules[x.aD]?=some R→R.right[x.dot]?=some (-1 - dK)→(⟨x.aD,x.dot+1,x.kM⟩:Item)∈S at_
theorem Sound.on {g:an} {p:List Int} {f a:Nat} {x:Item} (h:Sound g p f x) {R:aL} (hR:g.rules[x.aD]?=some R) {s:Int} (hs:R.right[x.dot]?=some s) (hsp:Sp g p [s] f a):Sound g p a ⟨x.aD,x.dot+1,x.kM⟩:=by
  obtain ⟨R',hR',h1,h2,h3⟩:=h
  rw[hR] at hR'; simp at hR'; subst hR'
  have hlt:=(List.getElem?_eq_some_iff.1 hs).1
  refine ⟨R,hR,hlt,Nat.le_trans h2 hsp.le,?_⟩
  have:R.right.take (x.dot+1)=R.right.take x.dot ++ [s]:=by rw[List.take_add_one,hs]; rfl
  rw[this]
  exact h3.app hsp
structure KH (g:an) (p:List Int) (S:Nat→List Item) (a:Nat) (x:Item):Prop where
  term:∀ R s,g.rules[x.aD]?=some R→R.right[x.dot]?=some s→0≤s→nM p a s→(⟨x.aD,x.dot+1,x.kM⟩:Item)∈S (a+1)
  pred:∀ R s i R',g.rules[x.aD]?=some R→R.right[x.dot]?=some s→s < 0→g.rules[i]?=some R'→R'.left = -1 - s→(⟨i,0,a⟩:Item)∈S a
  null:∀ R s,g.rules[x.aD]?=some R→R.right[x.dot]?=some s→s < 0→(aI g false).getD (-1 - s).toNat false=true→(⟨x.aD,x.dot+1,x.kM⟩:Item)∈S a
  comp:∀ R,g.rules[x.aD]?=some R→x.dot=R.right.length→x.kM < a→∀ y∈S x.kM,OZ g R.left S a y
theorem KH.grow {g:an} {p:List Int} {S S':Nat→List Item} {a:Nat} {x:Item} (h:KH g p S a x) (hg:Grow a S S'):KH g p S' a x where
  term:=fun R s h1 h2 h3 h4=>hg.mem (h.term R s h1 h2 h3 h4)
  pred:=fun R s i R' h1 h2 h3 h4 h5=>hg.mem (h.pred R s i R' h1 h2 h3 h4 h5)
  null:=fun R s h1 h2 h3 h4=>hg.mem (h.null R s h1 h2 h3 h4)
  comp:=fun R h1 h2 h3 y hy R' h4 h5=>hg.mem (h.comp R h1 h2 h3 y (by rw[(hg x.kM).2 h3] at hy; exact hy) R' h4 h5)
structure tt (H:View) (c sid:Nat) (u:V) (mi:Nat→Nat) (g:an) (p:List Int) (nu:V) (n k:Nat):Prop where
  box:H c=.arr 8 [[.aK (g.av.map cX),encS g.az,.aK (g.rules.map bm),gi g.start,encI p,nu,.sl sid 0 n 1,u]]
  jq:H sid=.arr 1 ((List.range n).map fun _=>[.emp 1])
  seen:aN H u 1 ((List.range k).map fun j=>[.mp (mi j)])
  map:∀ j,j < k→H (mi j)=.map [] 0
  inj:∀ i j,i < k→j < k→mi i=mi j→i=j
theorem tt.No {H:View} {c sid:Nat} {u:V} {mi:Nat→Nat} {g:an} {p:List Int} {nu:V} {n k:Nat} (h:tt H c sid u mi g p nu n k) (hn:0 < n):owner u≠some sid:=fun e=>by
  have h1:=(h.seen.live e).1
  rw[h.jq] at h1
  simp only[bI.arr.injEq,true_and] at h1
  have h2:=congrArg (·[0]?) h1
  simp[hn] at h2
  by_cases hk:0 < k
  · simp[hk] at h2
  · have:k=0:=by omega
    subst this
    simp at h2
theorem tt.OD {H:View} {c sid:Nat} {u:V} {mi:Nat→Nat} {g:an} {p:List Int} {nu:V} {n k:Nat} (h:tt H c sid u mi g p nu n k):owner u≠some c:=fun e=>by
  have h1:=(h.seen.live e).1
  rw[h.box] at h1
  simp at h1
theorem tt.PE {H:View} {c sid:Nat} {u:V} {mi:Nat→Nat} {g:an} {p:List Int} {nu:V} {n:Nat} (h:tt H c sid u mi g p nu n n) (hn:0 < n):Ch H c g p nu (fun _=>[]) 0 n []:=by
  obtain ⟨mid,hu,hm⟩:=h.seen.sl (by simp; omega)
  have hoff:=h.No hn
  refine ⟨sid,mid,fun _=>.emp 1,mi,fun _=>[],fun _=>0,?_,h.jq,hm,fun j hj=>aN.nil,fun j hj=>⟨h.map j hj,?_,fun x=>⟨fun hx=>by simp at hx,fun _=>rfl⟩⟩,?_,fun i j o _ _ h1=>by simp[owner] at h1,fun i j hi hj e=>h.inj i j hi hj e,fun q hq=>by simp at hq⟩
  · have:=h.box
    rw[hu] at this
    simpa using this
  · exact ⟨by simp,fun x hx=>by simp at hx⟩
  · rintro rfl
    rw[hu] at hoff
    exact hoff rfl
theorem tt.next {H H2:View} {c sid m:Nat} {u u':V} {mi:Nat→Nat} {g:an} {p:List Int} {nu:V} {n k:Nat} (h:tt H c sid u mi g p nu n k) (hn:0 < n) (hm:H m=.dead) (ho:aN H2 u' 1 (((List.range k).map fun j=>[.mp (mi j)]) ++ [[.mp m]])) (hm2:H2 m=.map [] 0)
    (hl:∀ id,H id≠.dead→owner u≠some id→H2 id=H id∧owner u'≠some id) :
    tt (H2.set c (.arr 8 [[.aK (g.av.map cX),encS g.az,.aK (g.rules.map bm),gi g.start,encI p,nu,.sl sid 0 n 1,u']])) c sid u' (fun j=>if j=k then m else mi j) g p nu n (k+1):=by
  have hC:=hl c (by rw[h.box]; simp) h.OD
  have hS:=hl sid (by rw[h.jq]; simp) (h.No hn)
  have hcs:sid≠c:=by rintro rfl; have:=h.box; rw[h.jq] at this; simp at this
  have hmn:∀ j,j < k→mi j≠m:=fun j hj e=>by have:=h.map j hj; rw[e,hm] at this; simp at this
  refine ⟨by simp[View.set],?_,?_,fun j hj=>?_,fun i j hi hj e=>?_⟩
  · simp only[View.set,if_neg hcs]
    rw[hS.1]; exact h.jq
  · refine aN.other ?_ hC.2
    have:(List.range (k+1)).map (fun j=>[V.mp (if j=k then m else mi j)])=(List.range k).map (fun j=>[V.mp (mi j)]) ++ [[.mp m]]:=by
      rw[List.range_succ,List.map_append,List.map_cons,List.map_nil,if_pos rfl]
      congr 1
      apply List.map_congr_left
      intro j hj
      rw[if_neg (by have:=List.mem_range.1 hj; omega)]
    rw[this]; exact ho
  · by_cases e:j=k
    · simp only[if_pos e]
      have:m≠c:=by rintro rfl; rw[h.box] at hm; simp at hm
      simp only[View.set,if_neg this]
      exact hm2
    · simp only[if_neg e]
      have h1:=h.map j (by omega)
      have:mi j≠c:=by intro e2; rw[e2,h.box] at h1; simp at h1
      simp only[View.set,if_neg this]
      rw[(hl (mi j) (by rw[h1]; simp) (fun e2=>by have:=(h.seen.live e2).1; rw[h1] at this; simp at this)).1]
      exact h1
  · by_cases e1:i=k
    · by_cases e2:j=k
      · omega
      · simp only[if_pos e1,if_neg e2] at e
        exact absurd e.symm (hmn j (by omega))
    · by_cases e2:j=k
      · simp only[if_neg e1,if_pos e2] at e
        exact absurd e (hmn i (by omega))
      · simp only[if_neg e1,if_neg e2] at e
        exact h.inj i j (by omega) (by omega) e
def Kept (H H':View):Prop:=∀ id,H id≠.dead→H' id=H id
theorem Kept.refl (H:View):Kept H H:=fun _ _=>rfl
theorem Kept.trans {H H' H'':View} (h:Kept H H') (h':Kept H' H''):Kept H H'':=fun id hid=>by
  have h1:=h id hid
  rw[← h1] at hid
  rw[h' id hid,h1]
theorem Kept.new {H:View} {b:Nat} {o:bI} (hb:H b=.dead):Kept H (H.set b o):=fun id hid=>by
  have:id≠b:=by rintro rfl; exact hid hb
  simp[View.set,this]
def K4 (H:View) (c:Nat) (g:an) (p:List Int):Prop:=∃ nu sid mid n,H c=.arr 8 [[.aK (g.av.map cX),encS g.az,.aK (g.rules.map bm),gi g.start,encI p,nu,.sl sid 0 n 1,.sl mid 0 n 1]]
theorem K4.keep {H H':View} {c:Nat} {g:an} {p:List Int} (h:K4 H c g p) (hs:Kept H H'):K4 H' c g p:=by
  obtain ⟨nu,sid,mid,n,h⟩:=h
  exact ⟨nu,sid,mid,n,by rw[hs c (by rw[h]; simp)]; exact h⟩
abbrev Pt:=List (List Bool)
def Dl (P:Pt) (N M:Nat):Prop:=P.length=N∧∀ r∈P,r.length=M
def N3 (P:Pt):V:=.aK (P.map fun c=>[di c])
theorem Dl.row {P:Pt} {N M n:Nat} (h:Dl P N M) (hn:n < N):∃ r,P[n]?=some r∧r.length=M∧P.getD n []=r:=by
  have hl:n < P.length:=by rw[h.1]; exact hn
  exact ⟨P[n],List.getElem?_eq_getElem hl,h.2 _ (List.getElem_mem hl),by simp[List.getD_eq_getElem?_getD,hl]⟩
structure k7 (H:View) (I N M:Nat) (R:Nat→Nat) (P:Pt):Prop where
  top:H I=.arr 1 ((List.range N).map fun n=>[.sl (R n) 0 M 1])
  row:∀ n,n < N→H (R n)=.arr 1 (cT (P.getD n []))
  inj:∀ n n',n < N→n' < N→R n=R n'→n=n'
structure ED (H:View) (I N M k:Nat) (R:Nat→Nat):Prop where
  top:H I=.arr 1 ((List.range N).map fun n=>[if n < k then .sl (R n) 0 M 1 else .emp 1])
  row:∀ n,n < k→H (R n)=.arr 1 (List.replicate M [gb false])
  inj:∀ n n',n < k→n' < k→R n=R n'→n=n'
def Na (N M:Nat):Pt:=List.replicate N (List.replicate M false)
def HZ (P:Pt) (n i:Nat):Pt:=P.set n ((P.getD n []).set i true)
theorem k7.O9 {H:View} {I N M:Nat} {R:Nat→Nat} {P:Pt} (h:k7 H I N M R P) (hP:Dl P N M) (hM:0 < M) {n:Nat} (hn:n < N):I≠R n:=fun e=>by
  have h1:=h.row n hn
  obtain ⟨r,_,h2,h3⟩:=hP.row hn
  rw[← e,h.top,h3] at h1
  simp only[bI.arr.injEq,true_and] at h1
  exact xN (by omega) h1.symm fun _ _=>by simp
theorem k7.keep {H H':View} {I N M:Nat} {R:Nat→Nat} {P:Pt} (h:k7 H I N M R P) (hk:∀ id,H id≠.dead→H' id=H id):k7 H' I N M R P :=
  ⟨by rw[hk _ (by rw[h.top]; simp)]; exact h.top,fun n hn=>by rw[hk _ (by rw[h.row n hn]; simp)]; exact h.row n hn,h.inj⟩
theorem k7.put {H:View} {I N M:Nat} {R:Nat→Nat} {P:Pt} (h:k7 H I N M R P) (hP:Dl P N M) {n i:Nat} (hn:n < N) (hi:i < M) :
    k7 (H.set (R n) (.arr 1 (cT ((P.getD n []).set i true)))) I N M R (HZ P n i):=by
  have hI:=h.O9 hP (by omega) hn
  have hnl:n < P.length:=by rw[hP.1]; exact hn
  refine ⟨by simp only[View.set,if_neg hI]; exact h.top,fun m hm=>?_,h.inj⟩
  by_cases e:R m=R n
  · have:=h.inj m n hm hn e
    subst this
    simp only[View.set,if_true]
    congr 2
    simp[HZ,List.getD_eq_getElem?_getD,hnl]
  · simp only[View.set,if_neg e]
    rw[h.row m hm]
    congr 2
    have:n≠m:=fun e2=>e (by rw[e2])
    simp[HZ,List.getD_eq_getElem?_getD,List.getElem?_set,this]
theorem k7.H8 {H:View} {I N M:Nat} {R:Nat→Nat} {P:Pt} (hG:k7 H I N M R P) (hP:Dl P N M):eK H (.sl I 0 N 1) (N3 P):=by
  rintro h rfl
  refine dx.NX ?_
  refine .sl I 0 N 1 1 _ _ hG.top (by simp) (by simp[hP.1]) (fun n hn=>?_) (fun n j hn hj=>?_)
  · obtain ⟨r,hr,_⟩:=hP.row hn
    simp[List.getD_eq_getElem?_getD,hr,hn]
  · obtain ⟨r,hr,hrl,hrg⟩:=hP.row hn
    have e1:((P.map fun c=>[di c]).getD n [])=[di r]:=by simp[List.getD_eq_getElem?_getD,hr]
    have e2:(((List.range N).map fun n=>[V.sl (R n) 0 M 1]).getD (0+n) [])=[V.sl (R n) 0 M 1]:=by simp[List.getD_eq_getElem?_getD,hn]
    rw[e1] at hj ⊢
    rw[e2]
    have:j=0:=by simp at hj; omega
    subst this
    simp only[List.getD_cons_zero]
    have hro:=hG.row n hn
    rw[hrg] at hro
    have:=uL (h:=h) (id:=R n) (is:=r) hro
    rwa [hrl] at this
theorem ED.done {H:View} {I N M:Nat} {R:Nat→Nat} (h:ED H I N M N R):k7 H I N M R (Na N M):=by
  refine ⟨?_,fun n hn=>?_,h.inj⟩
  · rw[h.top]
    congr 1
    apply List.map_congr_left
    intro n hn
    rw[if_pos (by simpa using hn)]
  · rw[h.row n hn]
    simp[Na,List.getD_eq_getElem?_getD,hn]
theorem ED.next {H:View} {I N M k:Nat} {R:Nat→Nat} {r:Nat} (h:ED H I N M k R) (hk:k < N) (hr:H r=.dead) :
    ED ((H.set r (.arr 1 (List.replicate M [gb false]))).set I (.arr 1 ((List.range N).map fun n=>[if n < k+1 then .sl (if n=k then r else R n) 0 M 1 else .emp 1]))) I N M (k+1) (fun n=>if n=k then r else R n):=by
  have hI:r≠I:=by rintro rfl; rw[h.top] at hr; simp at hr
  have hRI:∀ n,n < k→R n≠I:=fun n hn e=>by
    have h1:=h.row n hn
    rw[e,h.top] at h1
    simp only[bI.arr.injEq,true_and] at h1
    have h2:=congrArg (·[0]?) h1
    simp only[List.getElem?_map,List.getElem?_range (show 0 < N by omega),List.getElem?_replicate] at h2
    split at h2 <;> simp at h2
    split at h2 <;> simp at h2
  have hRr:∀ n,n < k→R n≠r:=fun n hn e=>by have:=h.row n hn; rw[e,hr] at this; simp at this
  refine ⟨by simp[View.set],fun n hn=>?_,fun n n' hn hn' e=>?_⟩
  · by_cases e:n=k
    · simp only[if_pos e,View.set,if_neg hI,if_true]
    · simp only[if_neg e,View.set,if_neg (hRI n (by omega)),if_neg (hRr n (by omega))]
      exact h.row n (by omega)
  · by_cases e1:n=k
    · by_cases e2:n'=k
      · omega
      · simp only[if_pos e1,if_neg e2] at e
        exact absurd e.symm (hRr n' (by omega))
    · by_cases e2:n'=k
      · simp only[if_neg e1,if_pos e2] at e
        exact absurd e (hRr n (by omega))
      · simp only[if_neg e1,if_neg e2] at e
        exact h.inj n n' (by omega) (by omega) e
def Mb:List Int:=[37,37,32,115,32,58,32,39,97,39,32,115,32,124,32,59]
def mS:an:=⟨[⟨⟨#[39,97,39]⟩,0,0⟩],[⟨#[115]⟩],[⟨0,[0,(-1)],0⟩,⟨0,[],(-1)⟩],0⟩
def Mc:an:=⟨[⟨⟨#[39,97,39]⟩,0,0⟩,⟨⟨#[39,98,39]⟩,0,0⟩],[⟨#[115]⟩,⟨#[110]⟩],[⟨0,[(-1),(-1)],(-1)⟩,⟨0,[(-2),0,(-2),1],1⟩,⟨0,[],(-1)⟩,⟨1,[(-2)],(-1)⟩,⟨1,[],(-1)⟩],0⟩
theorem Oa:dW Tryz.prog 49 [DM Mb] (wh mS):=Mv (by kernel_rfl)
section
variable {g:an} {p:List Int} {T:Tb} {N:Nat}
end
theorem n6 (p:List Int) (i:Nat):Sp Mc p [-2] i i:=.dK (-2) [] ⟨1,[],-1⟩ i i i (by decide) (by simp[Mc]) (by decide) (.nil i) (.nil i)
theorem Mw {g:an} (hr:bt g=true) {p l:List Int} {i j:Nat} (h:Sp g p l i j):fC l (aI g true) true=true:=by
  induction h with
  | nil=>rfl
  | term s l i j h0 _ _ ih =>
    simp only[fC,List.all_cons,Bool.and_eq_true] at ih ⊢
    rw[if_pos h0]
    exact ⟨rfl,ih⟩
  | dK s l R i k j h0 hR hl _ _ ih1 ih2 =>
    have g1:=pF hr hR ih1
    rw[hl] at g1
    simp only[fC,List.all_cons,Bool.and_eq_true] at ih2 ⊢
    rw[if_neg (by omega)]
    exact ⟨g1,ih2⟩
section
variable {g r:an} {p q:List Bool} {o:List Int}
theorem dT.sp (h:dT g p q o r) {w l:List Int} {i j:Nat} (hs:Sp g w l i j):(∀ s∈l,s < 0→-1 - s∈o)→Sp r w (l.map fun s=>if s < 0 then -1 - bP o (-1 - s) else s) i j:=by
  induction hs with
  | nil=>exact fun _=>.nil _
  | term s l i j h0 hf _ ih =>
    intro hl
    rw[List.map_cons,if_neg (by omega)]
    exact .term s _ i j h0 hf (ih fun s hs=>hl s (by simp[hs]))
  | dK s l R i k j h0 hR hle h1 _ ih1 ih2 =>
    intro hl
    have hso:=hl s (by simp) h0
    obtain ⟨R1,hR1,hk1,e1⟩:=h.from_ _ hso
    have hk:bJ p q R=true:=by
      rw[bJ,Bool.and_eq_true] at hk1 ⊢
      refine ⟨by rw[hle,← e1]; exact hk1.1,?_⟩
      rw[h.pe]
      exact Mw h.right h1
    have hin:=(h.kept R hR hk).2
    have hm:bA (bP o) R∈r.rules:=by rw[h.rules]; exact List.mem_map.2 ⟨R,List.mem_filter.2 ⟨hR,hk⟩,rfl⟩
    have hb:=jA hso
    rw[List.map_cons,if_pos h0]
    exact .dK _ _ (bA (bP o) R) i k j (by omega) hm (by simp only[bA]; rw[hle]; omega) (ih1 hin) (ih2 fun s hs=>hl s (by simp[hs]))
end
theorem Kg {g:an} {p:List Int} {k:Nat} (hk:k≤p.length) {l:List Int} {i j:Nat} (h:Sp g p l i j):i≤k→k≤j →
    (∃ l1 l2,l=l1 ++ l2∧Sp g (p.take k) l1 i k)∨(∃ l1 s l2 a,l=l1 ++ s :: l2∧s < 0∧Sp g (p.take k) l1 i a∧a < k∧CY g (p.take k) (-1 - s) a):=by
  induction h with
  | nil i =>
    intro h1 h2
    have:i=k:=by omega
    subst this
    exact .inl ⟨[],[],rfl,.nil _⟩
  | term s l i j h0 hf hs ih =>
    intro h1 h2
    by_cases e:i=k
    · subst e; exact .inl ⟨[],s :: l,rfl,.nil _⟩
    · have hf':nM (p.take k) i s:=by
        obtain ⟨c,hc,h3⟩:=hf
        exact ⟨c,by rw[List.getElem?_take,if_pos (by omega)]; exact hc,h3⟩
      rcases ih (by omega) h2 with ⟨l1,l2,e2,h3⟩ | ⟨l1,s',l2,a,e2,h3,h4,h5,h6⟩
      · exact .inl ⟨s :: l1,l2,by rw[e2]; rfl,.term s l1 i k h0 hf' h3⟩
      · exact .inr ⟨s :: l1,s',l2,a,by rw[e2]; rfl,h3,.term s l1 i a h0 hf' h4,h5,h6⟩
  | dK s l R i m j h0 hR hl hs1 hs2 ih1 ih2 =>
    intro h1 h2
    by_cases e:i=k
    · subst e; exact .inl ⟨[],s :: l,rfl,.nil _⟩
    · by_cases hm:m≤k
      · have c1:=hs1.cut (k:=k) hm
        rcases ih2 hm h2 with ⟨l1,l2,e2,h3⟩ | ⟨l1,s',l2,a,e2,h3,h4,h5,h6⟩
        · exact .inl ⟨s :: l1,l2,by rw[e2]; rfl,.dK s l1 R i m k h0 hR hl c1 h3⟩
        · exact .inr ⟨s :: l1,s',l2,a,by rw[e2]; rfl,h3,.dK s l1 R i m a h0 hR hl c1 h4,h5,h6⟩
      · have hlen:(p.take k).length=k:=by simp; omega
        refine .inr ⟨[],s,l,i,rfl,h0,.nil _,by omega,?_⟩
        rw[← hl]
        rcases ih1 h1 (by omega) with ⟨l1,l2,e2,h3⟩ | ⟨l1,s',l2,a,e2,h3,h4,h5,h6⟩
        · exact .full R l1 l2 i hR e2 (by rw[hlen]; exact h3)
        · exact .deep R l1 l2 s' i a hR e2 h3 h4 (by rw[hlen]; exact h5) h6
theorem CY.cut {g:an} {p:List Int} {k:Nat} (hk:k≤p.length) {n:Int} {f:Nat} (h:CY g p n f):f≤k→CY g (p.take k) n f:=by
  have hlen:(p.take k).length=k:=by simp; omega
  induction h with
  | full R l1 l2 f hR e hs =>
    intro hf
    rcases Kg hk hs hf hk with ⟨a1,a2,e2,h3⟩ | ⟨a1,s',a2,a,e2,h3,h4,h5,h6⟩
    · exact .full R a1 (a2 ++ l2) f hR (by rw[e,e2]; simp) (by rw[hlen]; exact h3)
    · exact .deep R a1 (a2 ++ l2) s' f a hR (by rw[e,e2]; simp) h3 h4 (by rw[hlen]; exact h5) h6
  | deep R l1 l2 s f a hR e h0 h1 h2 _ ih =>
    intro hf
    by_cases ha:a < k
    · exact .deep R l1 l2 s f a hR e h0 (h1.cut (by omega)) (by rw[hlen]; exact ha) (ih (by omega))
    · rcases Kg hk h1 hf (by omega) with ⟨a1,a2,e2,h3⟩ | ⟨a1,s',a2,b,e2,h3,h4,h5,h6⟩
      · exact .full R a1 (a2 ++ s :: l2) f hR (by rw[e,e2]; simp) (by rw[hlen]; exact h3)
      · exact .deep R a1 (a2 ++ s :: l2) s' f b hR (by rw[e,e2]; simp) h3 h4 (by rw[hlen]; exact h5) h6
theorem Sp.wide {g:an} {p p':List Int} (hp:∀ i s,nM p i s→nM p' i s) {l:List Int} {i j:Nat} (h:Sp g p l i j):Sp g p' l i j:=by
  induction h with
  | nil i=>exact .nil i
  | term s l i j h0 hf _ ih=>exact .term s l i j h0 (hp _ _ hf) ih
  | dK s l R i k j h0 hR hl _ _ ih1 ih2=>exact .dK s l R i k j h0 hR hl ih1 ih2
section
variable {fit:List Int→Bool} {T b:Nat}
end
def Ol (l:List (List Int)):V:=.aK (l.map fun w=>[encI w])
abbrev Ma:=List (V × List Int)
def mI (b:Ma):List (List V):=b.map fun x=>[x.1]
def jV (H:View) (u:V) (out:List (List Int)):Prop:=∃ b:Ma,b.map (·.2)=out∧aN H u 1 (mI b)∧∀ x∈b,aN H x.1 1 (dA x.2)
theorem jV.nil {H:View} {k:Nat} : jV H (.emp k) []:=⟨[],rfl,.nil,by simp⟩
theorem jV.len {H:View} {u:V} {out:List (List Int)} (h:jV H u out):cH u=some out.length:=by
  obtain ⟨b,rfl,ho,_⟩:=h
  rw[ho.len]; simp[mI]
theorem jV.cells {H:View} {u:V} {out:List (List Int)} (h:jV H u out):V.cells u=[u]∧aR u=true:=by
  obtain ⟨b,_,ho,_⟩:=h
  exact ⟨ho.cells,ho.uV⟩
theorem M3 {H:View} {u:V} {b:Ma} (ho:aN H u 1 (mI b)) (hb:∀ x∈b,aN H x.1 1 (dA x.2)) {x:V × List Int} (hx:x∈b) {id:Nat} (hid:owner x.1=some id):owner u≠some id:=by
  intro e
  have h1:=(ho.live e).1
  have h2:=((hb x hx).live hid).1
  rw[h2] at h1
  simp only[bI.arr.injEq,true_and] at h1
  cases b with
  | nil=>simp at hx
  | cons y r =>
    have h3:=hb y (by simp)
    cases hw:x.2 with
    | nil=>rw[hw] at h1; simp[mI] at h1
    | cons c w =>
      rw[hw] at h1
      simp only[mI,List.map_cons,List.cons.injEq] at h1
      rcases h3 with ⟨_,k,e2⟩ | ⟨n,e2,_⟩
      · rw[e2] at h1; simp at h1
      · rw[e2] at h1; simp at h1
theorem jV.keep {H H':View} {u:V} {out:List (List Int)} (h:jV H u out) (hk:∀ id,H id≠.dead→H' id=H id):jV H' u out:=by
  obtain ⟨b,e,ho,hb⟩:=h
  exact ⟨b,e,ho.keep fun id hid=>hk id (by rw[(ho.live hid).1]; simp),fun x hx=>(hb x hx).keep fun id hid=>hk id (by rw[((hb x hx).live hid).1]; simp)⟩
theorem jV.add {H H':View} {u u' v:V} {b:Ma} {w:List Int} (ho:aN H u 1 (mI b)) (hb:∀ x∈b,aN H x.1 1 (dA x.2)) (hv:aN H v 1 (dA w)) (hd:∀ id,owner v=some id→owner u≠some id)
    (h1:aN H' u' 1 (mI b ++ [[v]])) (h2:Left H H' u u'):jV H' u' (b.map (·.2) ++ [w]):=by
  refine ⟨b ++ [(v,w)],by simp,by simpa [mI] using h1,fun x hx=>?_⟩
  rcases List.mem_append.1 hx with hx | hx
  · exact (hb x hx).left h2 fun id hid=>M3 ho hb hx hid
  · simp at hx; subst hx
    exact hv.left h2 hd
theorem jV.Ov {h:aB} {u:V} {out:List (List Int)} (ho:jV h.view u out):dx h u (Ol out):=by
  obtain ⟨b,rfl,ho,hb⟩:=ho
  have hg:∀ i (hi:i < b.length),(mI b).getD i []=[(b[i]).1]∧(((b.map (·.2)).map fun w=>[encI w]).getD i [])=[encI (b[i]).2]:=fun i hi=>by
    simp[mI,List.getD_eq_getElem?_getD,hi]
  refine dx.own ho (by simp[mI]) (fun i hi=>?_) (fun i j hi hj=>?_)
  · have hi':i < b.length:=by simpa [mI] using hi
    rw[(hg i hi').1,(hg i hi').2]; rfl
  · have hi':i < b.length:=by simpa [mI] using hi
    rw[(hg i hi').2] at hj ⊢
    rw[(hg i hi').1]
    have:j=0:=by simp at hj; omega
    subst this
    simp only[List.getD_cons_zero]
    exact dx.KZ (hb _ (List.getElem_mem hi'))
def GW (H:View) (v:V) (p:List Int):Prop:=v=encI p∨(p≠[]∧∃ n,v=.sl n 0 p.length 1∧H n=.arr 1 (dA p))
theorem GW.H8 {H:View} {v:V} {p:List Int} (h:GW H v p):eK H v (encI p):=by
  rcases h with rfl | ⟨_,n,rfl,hn⟩
  · exact .tree (iY p)
  · exact zA hn rfl
theorem GW.len {H:View} {v:V} {p:List Int} (h:GW H v p):cH v=some p.length:=by
  rcases h with rfl | ⟨_,n,rfl,hn⟩
  · simp[encI,cH]
  · rfl
def qA (H H':View) (f:Nat) (u u':V):Prop:=∀ id,H id≠.dead→id≠f→owner u≠some id→H' id=H id∧owner u'≠some id
theorem qA.refl {H:View} {f:Nat} {u:V} : qA H H f u u:=fun _ _ _ h=>⟨rfl,h⟩
theorem qA.trans {H H1 H2:View} {f:Nat} {u u1 u2:V} (h1:qA H H1 f u u1) (h2:qA H1 H2 f u1 u2):qA H H2 f u u2:=fun id hd hf hu=>by
  obtain ⟨a,b⟩:=h1 id hd hf hu
  obtain ⟨c,d⟩:=h2 id (by rw[a]; exact hd) hf b
  exact ⟨c.trans a,d⟩
theorem qA.kept {H H':View} {f:Nat} {u:V} (h:∀ id,H id≠.dead→H' id=H id):qA H H' f u u:=fun id hd _ hu=>⟨h id hd,hu⟩
theorem FP {H:View} {u:V} {sz f z:Nat} {es:List (List V)} {e:List (List V)} (ho:aN H u sz es) (hf:H f=.arr z e) (hz:sz≠z):owner u≠some f:=fun e2=>by
  have:=(ho.live e2).1
  rw[hf] at this
  simp only[bI.arr.injEq] at this
  exact hz this.1.symm
theorem jV.box {H:View} {u:V} {out:List (List Int)} {f:Nat} {e:List (List V)} {o:bI} (h:jV H u out) (hf:H f=.arr 6 e):jV (H.set f o) u out:=by
  obtain ⟨b,e1,ho,hb⟩:=h
  exact ⟨b,e1,ho.other (FP ho hf (by decide)),fun x hx=>(hb x hx).other (FP (hb x hx) hf (by decide))⟩
section
variable {P:Program} {T:Env} {H:View} {K:V→View→Prop} {w:cp (T,H,K)} {t t1 e ty:TypeId}
end
def x9 (H:View) (u:V) (l:List Int):Prop:=u=encI l∨aN H u 1 (dA l)
theorem x9.elems {H:View} {u:V} {l:List Int} (h:x9 H u l):∃ rd,bG H u=some (dA l,rd):=by
  rcases h with rfl | h
  · exact ⟨[],qH _ _⟩
  generalize dA l=es0 at h
  rcases h with ⟨rfl,k,rfl⟩ | ⟨n,rfl,hn⟩
  · exact ⟨_,qD _ k⟩
  · cases es0 with
    | nil=>exact ⟨[],by simp[bG]⟩
    | cons e es =>
      exact ⟨_,by rw[show (e :: es).length=es.length+1 from rfl,oM _ n 0 es.length 1 1 _ hn (by simp),List.drop_zero,List.take_of_length_le (by simp)]⟩
theorem x9.len {H:View} {u:V} {l:List Int} (h:x9 H u l):cH u=some l.length:=by
  rcases h with rfl | h
  · simp[encI,cH]
  · rw[h.len]; simp
theorem x9.keep {H H':View} {u:V} {l:List Int} (h:x9 H u l) (hk:∀ id,H id≠.dead→H' id=H id):x9 H' u l:=by
  rcases h with rfl | h
  · exact .inl rfl
  · exact .inr (h.keep fun id hid=>hk id (by rw[(h.live hid).1]; simp))
def Mm (H:View) (u:V) (l:List Int):Prop:=aN H u 1 (dA l)∨(l=[]∧∃ m es,u=.sl m 0 0 1∧H m=.arr 1 es)
theorem Mm.live {H:View} {u:V} {l:List Int} (h:Mm H u l) {id:Nat} (hid:owner u=some id):∃ es,H id=.arr 1 es:=by
  rcases h with h | ⟨_,m,es,rfl,hm⟩
  · exact ⟨_,(h.live hid).1⟩
  · simp[owner] at hid; subst hid; exact ⟨es,hm⟩
def EM (H:View) (u:V) (l:List Int):Prop:=u=encI l∨∃ (m:Nat) (x:Int),l=[x]∧x < 0∧u=.sl m 0 1 1∧H m=.arr 1 [[gi x]]
theorem EM.H8 {H:View} {u:V} {l:List Int} (h:EM H u l):eK H u (encI l):=by
  rcases h with rfl | ⟨m,x,rfl,_,rfl,hm⟩
  · exact eK.tree (iY l)
  · exact zA (l:=[x]) hm rfl
theorem EM.keep {H H':View} {u:V} {l:List Int} (h:EM H u l) (hk:∀ id,H id≠.dead→H' id=H id):EM H' u l:=by
  rcases h with rfl | ⟨m,x,rfl,hx,rfl,hm⟩
  · exact .inl rfl
  · exact .inr ⟨m,x,rfl,hx,rfl,by rw[hk m (by rw[hm]; simp)]; exact hm⟩
theorem IC {F:List Way} {w:Way} {n:Int} : lookW (F ++ [w]) n=match lookW F n with
    | some x=>some x
    | none=>if w.dK=n then some w else none:=by
  unfold lookW
  rw[List.find?_append]
  cases h:F.find? fun x=>x.dK == n with
  | some x=>rfl
  | none =>
    simp only[Option.none_or,List.find?_cons,List.find?_nil]
    by_cases e:w.dK=n
    · simp[e]
    · have:(w.dK == n)=false:=by simpa using e
      rw[this]; simp[e]
theorem Cb {F:List Way} {n:Int} (h:n ∉ kg F):lookW F n=none:=by
  rw[lookW,List.find?_eq_none]
  intro x hx e
  exact h (List.mem_map.2 ⟨x,hx,by simpa using e⟩)
theorem qx.le {g:an} (hf:g.dg) {F:List Way} (h:qx g F):F.length≤g.az.length :=
  h.len ⟨hf.ld,hf.start⟩ fun R hR s hs hn=>by
    have:=hf.sym R hR s hs
    unfold gY at this
    rw[if_neg (by omega)] at this
    simpa using this
def fE (H:View) (u:V) (l:List Int):Prop:=∃ (id off:Nat) (es:List (List V)),u=.sl id off l.length 1∧H id=.arr 1 es∧off+l.length≤es.length∧(es.drop off).take l.length=dA l
theorem fE.len {H:View} {u:V} {l:List Int} (h:fE H u l):cH u=some l.length:=by
  obtain ⟨id,off,es,rfl,_⟩:=h; rfl
theorem fE.keep {H H':View} {u:V} {l:List Int} (h:fE H u l) (hk:∀ id es,H id=.arr 1 es→H' id=H id):fE H' u l:=by
  obtain ⟨id,off,es,h1,h2,h3,h4⟩:=h
  exact ⟨id,off,es,h1,by rw[hk id es h2]; exact h2,h3,h4⟩
theorem fE.fresh {H:View} {u:V} {l:List Int} (h:fE H u l) {n:Nat} {o:bI} (hn:H n=.dead):fE (H.set n o) u l :=
  h.keep fun id es hid=>by
    have:id≠n:=by rintro rfl; rw[hn] at hid; simp at hid
    simp[View.set,this]
theorem fE.vJ {H:View} {u:V} {l:List Int} (h:fE H u l) {q c:Nat} {es:List (V × V × Nat)} {o:bI} (hq:H q=.map es c):fE (H.set q o) u l :=
  h.keep fun id es' hid=>by
    have:id≠q:=by rintro rfl; rw[hq] at hid; simp at hid
    simp[View.set,this]
theorem fE.own {H:View} {u:V} {l:List Int} (h:aN H u 1 (dA l)) (hl:l≠[]):fE H u l:=by
  rcases h with ⟨e,_⟩ | ⟨n,rfl,hn⟩
  · rw[List.map_eq_nil_iff] at e; exact absurd e hl
  · exact ⟨n,0,_,by simp,hn,by simp,by rw[List.drop_zero,List.take_of_length_le (by simp)]⟩
theorem fE.at {H:View} {u:V} {x:Int} {l:List Int} (h:fE H u (x :: l)):∃ (id off:Nat) (es:List (List V)),u=.sl id off (l.length+1) 1∧H id=.arr 1 es∧off < es.length∧es.getD off []=[gi x]∧off+(l.length+1)≤es.length:=by
  obtain ⟨id,off,es,h1,h2,h3,h4⟩:=h
  simp only[List.length_cons] at h1 h3 h4
  refine ⟨id,off,es,h1,h2,by omega,?_,h3⟩
  have h5:=congrArg (fun z=>z[0]?) h4
  simp at h5
  have:es[off]?=some (es[off]'(by omega)):=List.getElem?_eq_getElem (by omega)
  rw[this] at h5
  simp at h5
  rw[List.getD_eq_getElem?_getD,this,h5]; rfl
theorem fE.next {H:View} {id off k:Nat} {x:Int} {l:List Int} (h:fE H (.sl id off k 1) (x :: l)):fE H (.sl id (off+1) (k - 1) 1) l:=by
  obtain ⟨id',off',es,h1,h2,h3,h4⟩:=h
  simp only[V.sl.injEq,and_true] at h1
  obtain ⟨rfl,rfl,rfl⟩:=h1
  simp only[List.length_cons] at h3 h4 ⊢
  refine ⟨id,off+1,es,by simp,h2,by omega,?_⟩
  have h5:=congrArg (List.drop 1) h4
  rw[List.drop_take,List.drop_drop] at h5
  simpa using h5
def HS (H:View) (w:Option Way) (v:Option V):Prop:=match w with
  | none=>v=none
  | some w=>(w.aD = -1∧v=some (.val (.pointer none)))∨(0≤w.aD∧∃ p,v=some (.ptr p 0 0)∧H p=.arr 2 [[gi w.aD,gi w.place]])
def gq (H:View) (F:List Way) (m:bY Int):Prop:=∀ n,HS H (lookW F n) (getM m n)
theorem HS.keep {H H':View} {w:Option Way} {v:Option V} (h:HS H w v) (hk:∀ id es,H id=.arr 2 es→H' id=H id):HS H' w v:=by
  cases w with
  | none=>exact h
  | some w =>
    rcases h with h | ⟨h1,p,h2,h3⟩
    · exact .inl h
    · exact .inr ⟨h1,p,h2,by rw[hk p _ h3]; exact h3⟩
theorem gq.keep {H H':View} {F:List Way} {m:bY Int} (h:gq H F m) (hk:∀ id es,H id=.arr 2 es→H' id=H id):gq H' F m:=fun n=>(h n).keep hk
theorem gq.fresh {H:View} {F:List Way} {m:bY Int} (h:gq H F m) {n:Nat} {o:bI} (hn:H n=.dead):gq (H.set n o) F m :=
  h.keep fun id es hid=>by
    have:id≠n:=by rintro rfl; rw[hn] at hid; simp at hid
    simp[View.set,this]
theorem gq.vJ {H:View} {F:List Way} {m:bY Int} (h:gq H F m) {q c:Nat} {es:List (V × V × Nat)} {o:bI} (hq:H q=.map es c):gq (H.set q o) F m :=
  h.keep fun id es' hid=>by
    have:id≠q:=by rintro rfl; rw[hq] at hid; simp at hid
    simp[View.set,this]
theorem HX {H:View} {u:V} {l:List Int} (h:fE H u l) {id:Nat} (hid:owner u=some id):∃ es,H id=.arr 1 es:=by
  obtain ⟨i,off,es,rfl,h2,_⟩:=h
  simp[owner] at hid; subst hid
  exact ⟨es,h2⟩
theorem gq.left {H H':View} {F:List Way} {m:bY Int} (h:gq H F m) {u u':V} {l:List Int} (ht:fE H u l) (hl:Left H H' u u'):gq H' F m :=
  h.keep fun id es hid=>(hl id (by rw[hid]; simp) (fun e=>by obtain ⟨es',h2⟩:=HX ht e; rw[hid] at h2; simp at h2)).1
theorem gq.put {H:View} {F:List Way} {m:bY Int} (h:gq H F m) {p c k j:Nat} {n:Int} (hn:n ∉ kg F) (hp:H p=.arr 2 [[gi k,gi j]]):gq H (F ++ [⟨n,k,j⟩]) (bR n (.ptr p 0 0) c m):=by
  intro n'
  rw[IC,x3]
  by_cases e:n=n'
  · subst e
    rw[Cb hn]
    simp only[if_true,beq_self_eq_true]
    exact .inr ⟨by simp only; omega,p,rfl,hp⟩
  · have e2:(n' == n)=false:=by simpa using Ne.symm e
    rw[e2]
    have h1:=h n'
    cases hl:lookW F n' with
    | some w=>rw[hl] at h1; simpa using h1
    | none =>
      rw[hl] at h1
      simp only
      rw[if_neg e]
      simpa using h1
theorem gq.has {H:View} {F:List Way} {m:bY Int} (h:gq H F m) (n:Int):(getM m n).isSome=decide (n∈kg F):=by
  have h1:=h n
  by_cases e:n∈kg F
  · obtain ⟨x,hx,_⟩:=M9 e
    rw[hx] at h1
    rcases h1 with ⟨_,h1⟩ | ⟨_,p,h1,_⟩ <;> rw[h1] <;> simp[e]
  · rw[Cb e] at h1
    have h2:getM m n=none:=h1
    rw[h2]; simp[e]
theorem fE.all {H:View} {u:V} {l:List Int} (h:fE H u l):∃ (id off:Nat) (es:List (List V)),u=.sl id off l.length 1∧H id=.arr 1 es∧off+l.length≤es.length∧∀ j,j < l.length→es.getD (off+j) []=[gi (l.getD j 0)]:=by
  obtain ⟨id,off,es,h1,h2,h3,h4⟩:=h
  refine ⟨id,off,es,h1,h2,h3,fun j hj=>?_⟩
  have h5:=congrArg (fun z=>z[j]?) h4
  simp only[List.getElem?_take,hj,if_true,List.getElem?_drop,List.getElem?_map,List.getElem?_eq_getElem hj,Option.map_some] at h5
  rw[List.getD_eq_getElem?_getD,h5,List.getD_eq_getElem?_getD,List.getElem?_eq_getElem hj]; rfl
theorem fE.take {H:View} {id off k:Nat} {l:List Int} (h:fE H (.sl id off k 1) l) {m:Nat} (hm:m≤l.length):fE H (.sl id off m 1) (l.take m):=by
  obtain ⟨id',off',es,h1,h2,h3,h4⟩:=h
  simp only[V.sl.injEq,and_true] at h1
  obtain ⟨rfl,rfl,rfl⟩:=h1
  refine ⟨id,off,es,by simp; omega,h2,by simp; omega,?_⟩
  have h5:=congrArg (List.take m) h4
  rw[List.take_take,show min m l.length=m by omega] at h5
  rw[show (l.take m).length=m by simp; omega,h5]
  exact List.map_take.symm
theorem aE.same {P:Program} {q:Bool} {f:FuncId} {vs:List V} {H:View} {K:V→View→Prop} {w:cp (H,K)} {v:V} (hc:aA P f vs H fun r H'=>H'=H∧r=v) (hk:K v H):aE P q f vs H K w:=by
  unfold aE
  cases q with
  | true =>
    simp only[if_true]
    exact (hc.mono fun r H' h=>⟨fun id _=>by rw[h.1],by rw[h.1,h.2]; exact hk⟩).DN
  | false =>
    simp only[Bool.false_eq_true,if_false]
    exact hc.mono fun r H' h=>by rw[h.1,h.2]; exact hk
def HL:Value→Value→Bool
  | .int k a,.int k' b=>decide (k=k') && decide (a=b)
  | .bool a,.bool b=>a == b
  | .string a,.string b=>gB a b
  | .pointer none,.pointer none=>true
  | _,_=>false
theorem KJ:∀ (a b:Value),HL a b=true→a=b:=by
  intro a b h
  unfold HL at h
  split at h
  · simp only[Bool.and_eq_true,decide_eq_true_eq] at h
    rw[h.1,h.2]
  · rename_i a b
    rw[show a=b by simpa using h]
  · rename_i a b
    obtain ⟨a⟩:=a
    obtain ⟨b⟩:=b
    simp only[gB,beq_iff_eq] at h
    rw[show a=b from Array.toList_inj.1 h]
  · rfl
  · simp at h
def wV (q:V→V→Bool):List V→List V→Bool
  | [],[]=>true
  | a :: l,b :: m=>q a b && wV q l m
  | _,_=>false
def FD (q:V→V→Bool):List (List V)→List (List V)→Bool
  | [],[]=>true
  | a :: l,b :: m=>wV q a b && FD q l m
  | _,_=>false
def Bm:Nat→V→V→Bool
  | 0,_,_=>false
  | k+1,a,b=>match a,b with
    | .val x,.val y=>HL x y
    | .aK x,.aK y=>FD (Bm k) x y
    | .agg x,.agg y=>wV (Bm k) x y
    | .bc x,.bc y=>wV (Bm k) x y
    | _,_=>false
theorem rv {q:V→V→Bool} (hq:∀ a b,q a b=true→a=b):∀ (l m:List V),wV q l m=true→l=m
  | [],[],_=>rfl
  | a :: l,b :: m,h=>by
    simp only[wV,Bool.and_eq_true] at h
    rw[hq a b h.1,rv hq l m h.2]
  | [],_ :: _,h=>by simp[wV] at h
  | _ :: _,[],h=>by simp[wV] at h
theorem IL {q:V→V→Bool} (hq:∀ a b,q a b=true→a=b):∀ (l m:List (List V)),FD q l m=true→l=m
  | [],[],_=>rfl
  | a :: l,b :: m,h=>by
    simp only[FD,Bool.and_eq_true] at h
    rw[rv hq a b h.1,IL hq l m h.2]
  | [],_ :: _,h=>by simp[FD] at h
  | _ :: _,[],h=>by simp[FD] at h
theorem CV:∀ (k:Nat) (a b:V),Bm k a b=true→a=b
  | 0,_,_,h=>by simp[Bm] at h
  | k+1,a,b,h=>by
    have ih:=CV k
    unfold Bm at h
    split at h
    · rw[KJ _ _ h]
    · rw[IL ih _ _ h]
    · rw[rv ih _ _ h]
    · rw[rv ih _ _ h]
    · simp at h
def p8:Nat→V→Bool
  | 0,_=>false
  | k+1,v=>match v with
    | .val _=>true
    | .emp _=>true
    | .c8=>true
    | .aK es=>es.all fun e=>e.all (p8 k)
    | .agg cs=>cs.all (p8 k)
    | .bc cs=>cs.all (p8 k)
    | _=>false
theorem tj {q:V→Bool} {l:List V} (h:l.all q=true) {i:Nat} (hi:i < l.length):q (l.getD i .any)=true:=by
  have e:l.getD i .any=l[i]:=by simp[List.getD_eq_getElem?_getD,hi]
  rw[e]
  exact List.all_eq_true.1 h _ (List.getElem_mem _)
theorem xY:∀ (k:Nat) (v:V),p8 k v=true→Tree v
  | 0,_,h=>by simp[p8] at h
  | k+1,v,h=>by
    have ih:=xY k
    unfold p8 at h
    split at h
    · exact .val _
    · exact .emp _
    · exact .c8
    · rename_i es
      refine .aK _ fun i j hi hj=>ih _ ?_
      have e:es.getD i []=es[i]:=by simp[List.getD_eq_getElem?_getD,hi]
      have h1:=List.all_eq_true.1 h _ (List.getElem_mem hi)
      rw[e] at hj ⊢
      exact tj h1 hj
    · exact .agg _ fun i hi=>ih _ (tj h hi)
    · exact .bc _ fun i hi=>ih _ (tj h hi)
    · simp at h
noncomputable def sm (H:View):Nat→V→Option V
  | 0,_=>none
  | k+1,v=>match v with
    | .val x=>some (.val x)
    | .emp _=>some (.aK [])
    | .aK es=>match p8 60 (.aK es) with
      | true=>some (.aK es)
      | false=>none
    | .sl id off len _=>match H id with
      | .arr _ es=>match Nat.ble (off+len) es.length with
        | true=>(zU (sm H k) ((es.drop off).take len)).map .aK
        | false=>none
      | _=>none
    | .agg cs=>(lK (sm H k) cs).map .agg
    | .bc cs=>(lK (sm H k) cs).map .bc
    | _=>none
theorem AP (h:aB):∀ (k:Nat) (v t:V),sm h.view k v=some t→Fr h v t
  | 0,v,t,hf=>by simp[sm] at hf
  | k+1,v,t,hf=>by
    have ih:=AP h k
    simp only[sm] at hf
    split at hf
    · simp only[Option.some.injEq] at hf; subst hf; exact .tree _ (.val _)
    · simp only[Option.some.injEq] at hf; subst hf; exact .emp _
    · split at hf
      · rename_i ht
        simp only[Option.some.injEq] at hf; subst hf; exact .tree _ (xY _ _ ht)
      · simp at hf
    · rename_i id off len esz
      split at hf
      · rename_i z es hH
        split at hf
        · rename_i hle
          have hle:=Nat.le_of_ble_eq_true hle
          simp only[Option.map_eq_some_iff] at hf
          obtain ⟨es',he,rfl⟩:=hf
          obtain ⟨g1,g2⟩:=Am _ _ he
          have hlen:es'.length=len:=by rw[g1]; simp; omega
          have hg:∀ i,i < len→((es.drop off).take len).getD i []=es.getD (off+i) []:=fun i hi=>by
            simp[List.getD_eq_getElem?_getD,List.getElem?_take,hi]
          have g3:∀ i,i < len→lK (sm h.view k) (es.getD (off+i) [])=some (es'.getD i []):=fun i hi=>by
            rw[← hg i hi]; exact g2 i (by rw[← g1,hlen]; exact hi)
          exact .sl id off len esz z es es' hH hle hlen (fun i hi=>(fT _ _ (g3 i hi)).1) (fun i j hi hj=>ih _ _ ((fT _ _ (g3 i hi)).2 j (by rw[← (fT _ _ (g3 i hi)).1]; exact hj)))
        · simp at hf
      · simp at hf
    · simp only[Option.map_eq_some_iff] at hf
      obtain ⟨l,hl,rfl⟩:=hf
      obtain ⟨g1,g2⟩:=fT _ _ hl
      exact .agg _ _ g1 (fun i hi=>ih _ _ (g2 i hi))
    · simp only[Option.map_eq_some_iff] at hf
      obtain ⟨l,hl,rfl⟩:=hf
      obtain ⟨g1,g2⟩:=fT _ _ hl
      exact .bc _ _ g1 (fun i hi=>ih _ _ (g2 i hi))
    · simp at hf
theorem aC.seen {P:Program} {f:FuncId} {vs ts:List V} {t:V} (hc:aC P f ts t) (ht:∀ i,i < vs.length→Tree (vs.getD i .any)) (hl:ts.length=vs.length) (hfr:∀ i,i < vs.length→Fr [] (vs.getD i .any) (ts.getD i .any)):aC P f vs t:=by
  intro Z μ w xs hrel hz
  have hr0:fL Z (fun _=>none) w.heap (cat [] fun _=>.dead):=by
    rw[AB]
    exact ⟨fun _=>trivial,fun i j b o s o' s' _ h=>by simp at h,fun id b o s h=>by simp at h,hz,fun id b o s h=>by simp at h⟩
  have hno:∀ b,¬ gL (fun _=>none) b:=fun b ⟨_,_,_,h⟩=>by simp at h
  have hts:dR (fun b=>Z b∨gL (fun _=>none) b) μ w.heap ts xs:=⟨by rw[hl,hrel.1],fun i hi=>zB hr0 (hfr i (by omega)) (s9 (hrel.2 i (by omega)) (ht i (by omega)))⟩
  refine (hc _ μ w xs hts (fun b hb=>hb.elim (hz b) (fun h=>absurd h (hno b)))).mono ?_
  rintro e w' ⟨x,Z',rfl,hv,hs,h1,h2,ho⟩
  exact ⟨x,Z',rfl,hv,hs,fun b hb=>h1 b (.inl hb),fun b hb=>(h2 b hb).elim (fun h=>h.elim .inl (fun h=>absurd h (hno b))) .inr,ho⟩
abbrev AD:=FuncId × List V × V × Bool
def AD.Ok (P:Program) (x:AD):Prop:=cR P x.1=true∧if x.2.2.2=true then aC P x.1 x.2.1 x.2.2.1 else (dW P x.1 x.2.1 x.2.2.1∨(aC P x.1 x.2.1 x.2.2.1∧xz x.2.2.1))
noncomputable def Mo (g:FuncId) (vs:List V) (H:View) (x:AD):Bool:=Nat.beq x.1 g && (match x.2.2.2 with
  | true=>vs.all (p8 60) && (match lK (sm (fun _=>.dead) 60) vs with
    | some ts=>wV (Bm 60) ts x.2.1
    | none=>false)
  | false=>match lK (sm H 60) vs with
    | some ts=>wV (Bm 60) ts x.2.1
    | none=>false)
noncomputable def Mh (l:List AD):u6:=fun g vs H=>(l.find? (Mo g vs H)).map fun x=>x.2.2.1
theorem K3 {P:Program} {l:List AD} (hl:∀ x∈l,x.Ok P):pA P (Mh l):=by
  intro g vs H t h
  unfold Mh at h
  simp only[Option.map_eq_some_iff] at h
  obtain ⟨⟨f,ts,r,b⟩,hx,rfl⟩:=h
  obtain ⟨h1,h2⟩:=hl _ (List.mem_of_find?_eq_some hx)
  have hq:=List.find?_some hx
  simp only[Mo,Bool.and_eq_true] at hq
  obtain ⟨hg,hq⟩:=hq
  have hg:=Nat.eq_of_beq_eq_true hg
  simp only at hg h1 h2 hq
  subst hg
  refine ⟨h1,?_⟩
  rintro h rfl
  cases b with
  | true =>
    simp only[Bool.and_eq_true] at hq
    obtain ⟨hq1,hq2⟩:=hq
    split at hq2
    · rename_i us hus
      obtain ⟨g1,g2⟩:=fT _ _ hus
      have:=rv (CV 60) _ _ hq2
      subst this
      simp only[if_true] at h2
      exact bw.eT (h2.seen (fun i hi=>xY _ _ (tj hq1 hi)) g1 fun i hi=>AP [] 60 _ _ (g2 i hi)) h
    · simp at hq2
  | false =>
    simp only at hq
    split at hq
    · rename_i us hus
      obtain ⟨g1,g2⟩:=fT _ _ hus
      have:=rv (CV 60) _ _ hq
      subst this
      have hfr:=fun i hi=>AP h 60 _ _ (g2 i hi)
      simp only[Bool.false_eq_true,if_false] at h2
      rcases h2 with h2 | ⟨h2,h3⟩
      · exact bw.sf h2 g1 hfr
      · exact bw.borrow h2 h3 g1 hfr
    · simp at hq
def qB (x:Int):Bool:=decide (-9223372036854775808≤x) && decide (x≤9223372036854775807)
theorem mN {x:Int} (h:qB x=true):bO x:=by
  unfold qB at h
  simp only[Bool.and_eq_true,decide_eq_true_eq] at h
  exact h
def okB (g:an):Bool:=decide (g.av.length≤900) && decide (g.az.length≤100) && decide (g.rules.length≤900) && qB g.start && g.av.all (fun t=>qB t.level && qB t.assoc) && g.rules.all fun r=>qB r.left && qB r.prec && decide (r.right.length≤900) && r.right.all qB
theorem NW {g:an} (h:okB g=true):g.Ok∧g.Small:=by
  unfold okB at h
  simp only[Bool.and_eq_true,decide_eq_true_eq,List.all_eq_true] at h
  obtain ⟨⟨⟨⟨⟨h1,h2⟩,h3⟩,h4⟩,h5⟩,h6⟩:=h
  refine ⟨⟨by unfold bo; omega,by unfold bo; omega,by unfold bo; omega,mN h4,fun t ht=>⟨mN (h5 t ht).1,mN (h5 t ht).2⟩,fun r hr=>?_⟩,⟨by omega⟩⟩
  have:=h6 r hr
  exact ⟨mN this.1.1.1,mN this.1.1.2,by unfold bo; have:=this.1.2; omega,fun x hx=>mN (this.2 x hx)⟩
theorem qd:mS.Ok∧mS.Small:=NW (by kernel_rfl)
structure O0 where
  Ph:Int
  cell:Cell
  deriving DecidableEq
structure gU where
  sym:Int
  to:Int
  deriving DecidableEq
structure Nf where
  av:Int
  az:Int
  rows:List (List O0)
  of:List Int
  gotos:List (List gU)
  to:List Int
def yA (x:gU):List V:=[gi x.sym,gi x.to]
structure Nf.Ok (p:Nf):Prop where
  av:bO p.av
  az:bO p.az
  rows:bo p.rows
  of:bo p.of∧∀ x∈p.of,bO x
  gotos:bo p.gotos
  to:bo p.to∧∀ x∈p.to,bO x
  row:∀ r∈p.rows,bo r∧∀ c∈r,bO c.Ph∧bO c.cell.kind∧bO c.cell.n
  go:∀ r∈p.gotos,bo r∧∀ x∈r,bO x.sym∧bO x.to
theorem bf.as {H:View} {u:V} {sz:Nat} {es es':List (List V)} {L:List eJ} (h:bf H ((u,sz,es) :: L)) (e:es=es'):bf H ((u,sz,es') :: L):=e ▸ h
structure aJ where
  aD:Int
  dot:Int
  deriving DecidableEq
def bu (x:aJ):List V:=[gi x.aD,gi x.dot]
def aS (l:List aJ):List (List V):=l.map bu
def cF (a b:aJ):Bool:=decide (a.aD < b.aD) || (decide (a.aD=b.aD) && decide (a.dot < b.dot))
def lG:List aJ→aJ→List aJ
  | [],x=>[x]
  | y :: l,x=>if cF y x=true then y :: lG l x else if y=x then y :: l else x :: y :: l
theorem BL (x y:aJ):fB Tryz.prog 9998 #[.int .i64 x.aD,.int .i64 x.dot] #[.int .i64 y.aD,.int .i64 y.dot]
    [{ name:= "Rule",type:=3,offset:=0,embedded:=false,tag:= "",pkgPath:= "",byteOffset:=0 },{ name:= "Dot",type:=3,offset:=1,embedded:=false,tag:= "",pkgPath:= "",byteOffset:=8 }] ((x.aD == y.aD) && ((x.dot == y.dot) && true)) :=
  .int _ _ _ .i64 _ _ (by decide) Tryz.underlying3 rfl rfl (.int _ _ _ .i64 _ _ (by decide) Tryz.underlying3 rfl rfl .nil)
theorem Km (x y:aJ):((x.aD == y.aD) && ((x.dot == y.dot) && true))=decide (x=y):=by
  cases x; cases y; rw[Bool.eq_iff_iff]; simp
theorem Left.behind {H H':View} {q:Nat} {o:bI} {u r:V} (hq:H q=.dead) (h:Left (H.set q o) H' u r):Left H H' u r:=fun a ha hau=>by
  have e:¬ a=q:=by rintro rfl; exact ha hq
  have:=h a (by simp[View.set,e]; exact ha) hau
  simpa [View.set,e] using this
def db (g:an) (r:Int):List Int:=if r = -1 then [-1 - g.start] else (dq g r).right
def bM (g:an) (x:aJ):Int × Bool:=if x.dot=(db g x.aD).length then (0,false) else ((db g x.aD).getD x.dot.toNat 0,true)
def lU:SF:=⟨.seq (al [b6 2 0,((some 4),.op (.bj (.val (.emp 1))))]) <|
  .seq (.seq (al [aa 5 1,ax 6 .eql 5 (-1)]) <|
  .cond (.tmp 6) (.seq (al [ao 7 3 2,aq 8 7,((some 9),.op (.arith .sub (.val (.val (.int .i64 (-1)))) (.tmp 8))),((some 10),.op (.bD 1 1 [(.val (.int .i64 0))] [(0,(.tmp 9))])),aa 4 10]) <|
  .ret) (.skip)) <|
  .seq (al [ao 11 2 2,aq 12 11,aa 13 1,aZ 14 3 12 13,ao 15 1 14,aq 16 15,aa 4 16]) <|
  .ret,
  [.tmp 4],17⟩
theorem qY:bh Tryz.prog 55 [2]=some lU:=by kernel_rfl
def nz:SF:=⟨.seq (al [b6 2 0,b6 3 1,aF 4 0,aV 5 false]) <|
  .seq (al [aH 7 4 2,ao 8 0 3,aq 9 8,aG 10 55 [7,9],aa 6 10]) <|
  .seq (.seq (al [ao 11 1 3,aq 12 11,aa 13 6,aM 14 13,aO 15 .eql 12 14]) <|
  .cond (.tmp 15) (.seq (al [aF 4 0,aV 5 false]) <|
  .ret) (.skip)) <|
  .seq (al [aa 16 6,ao 17 1 3,aq 18 17,aZ 19 1 16 18,aq 20 19,aa 4 20,aV 5 true]) <|
  .ret,
  [.tmp 4,.tmp 5],21⟩
theorem rE:bh Tryz.prog 51 [2,3]=some nz:=by kernel_rfl
theorem zy (g:an) (hs : -100≤g.start∧g.start≤100) (r:Int) (hr : -1≤r∧r < (g.rules.length:Int)):aC Tryz.prog 55 [.agg (aw g),gi r] (encI (db g r)):=by
  refine aC.of (by
    intro v hv; simp at hv
    rcases hv with rfl | rfl
    · exact cI _ (dr g)
    · exact .val _) ?_
  refine aA.of mixed qY ?_
  unfold db
  simp (disch:=omega) only [↓wr,↓reduceIte,wq,ah,ag,aj,ab,ae,af,ai,isNil,Nat.reduceEqDiff,Nat.reduceAdd,Nat.reduceLT,Nat.reduceLeDiff,Int.reduceNeg,Int.reduceToNat,reduceCtorEq,lU,aw,encS]
  refine au.eq (fun h1=>?_) (fun h1=>?_)
  · simp (disch:=omega) only [↓wr,↓reduceIte,wq,ah,ag,aj,ab,ae,af,ai,isNil,Nat.reduceEqDiff,Nat.reduceAdd,Nat.reduceLT,Nat.reduceLeDiff,Int.reduceNeg,Int.reduceToNat,reduceCtorEq,aw,encS]
    intro n
    rw[if_pos h1]
    rintro h' hv
    refine dx.fr (mE (l:=[-1 - g.start]) (.inr ⟨n,rfl,?_⟩))
    rw[hv]; simp[View.set]
  · have hR:g.rules[r.toNat]?=some (dq g r):=by unfold dq; exact getD_some (by omega)
    rw[if_neg h1]
    generalize dq g r=R at hR
    simp (disch:=omega) only [↓wr,↓reduceIte,wq,ah,ag,aj,ab,ae,af,ai,isNil,Nat.reduceEqDiff,Nat.reduceAdd,Nat.reduceLT,Nat.reduceLeDiff,Int.reduceNeg,Int.reduceToNat,reduceCtorEq,aw,encS,List.getElem?_map,hR,Option.map_some,bm]
    intro h' _
    exact .tree _ (iY R.right)
theorem IP (g:an) (hs : -100≤g.start∧g.start≤100) (x:aJ) (hx : -1≤x.aD∧x.aD < (g.rules.length:Int)) (hd:0≤x.dot∧x.dot≤(db g x.aD).length) (hl:(db g x.aD).length≤1000) :
    aC Tryz.prog 51 [.agg (aw g),.agg (bu x)] (.bc [gi (bM g x).1,gb (bM g x).2]):=by
  have h1:=zy g hs x.aD hx
  refine aC.tree (by
    intro v hv; simp at hv
    rcases hv with rfl | rfl
    · exact cI _ (dr g)
    · exact cI _ fun v hv=>by simp[bu] at hv; rcases hv with rfl | rfl <;> exact .val _) (.bc _ fun i hi=>by
      match i,hi with
      | 0,_=>exact .val _
      | 1,_=>exact .val _) fun H=>?_
  refine aA.of mixed rE ?_
  simp only[aw,encS,encI] at h1
  unfold bM
  simp (disch:=omega) only [↓wr,↓reduceIte,wq,ah,ag,aj,ab,ae,af,ai,isNil,Nat.reduceEqDiff,Nat.reduceAdd,Nat.reduceLT,Nat.reduceLeDiff,Int.reduceNeg,Int.reduceToNat,reduceCtorEq,nz,aw,encS,bu]
  refine aE.pure h1 (by kernel_rfl) ?_
  generalize db g x.aD=R at hd hl ⊢
  simp (disch:=omega) only [↓wr,↓reduceIte,wq,ah,ag,aj,ab,ae,af,ai,isNil,Nat.reduceEqDiff,Nat.reduceAdd,Nat.reduceLT,Nat.reduceLeDiff,Int.reduceNeg,Int.reduceToNat,reduceCtorEq,bu]
  refine au.eq (fun h2=>?_) (fun h2=>?_)
  · simp (disch:=omega) only [↓wr,↓reduceIte,wq,ah,ag,aj,ab,ae,af,ai,isNil,Nat.reduceEqDiff,Nat.reduceAdd,Nat.reduceLT,Nat.reduceLeDiff,Int.reduceNeg,Int.reduceToNat,reduceCtorEq]
    rw[if_pos h2]
  · have hg:R[x.dot.toNat]?=some (R.getD x.dot.toNat 0):=getD_some (by omega)
    simp (disch:=omega) only [↓wr,↓reduceIte,wq,ah,ag,aj,ab,ae,af,ai,isNil,Nat.reduceEqDiff,Nat.reduceAdd,Nat.reduceLT,Nat.reduceLeDiff,Int.reduceNeg,Int.reduceToNat,reduceCtorEq,bu,List.getElem?_map,hg,Option.map_some]
    rw[if_neg h2]
end Gv
