/-
  Part 12 of the proof: what the machine does and what the functions answer.
  Conditions: those that each lemma names.
-/
import Derived.Test.YtihmlbdfcmfbdaaGreatSGzA5K
set_option linter.unusedSimpArgs false
set_option linter.unusedVariables false
set_option maxRecDepth 100000
namespace Gv
open Go Go.Proofs
def eT:SC :=
  .seq (al [aS 14 .lss 13 12]) <|
  .seq (.cond (.tmp 14) (.skip) (.exit 0)) <|
  .seq (.block 1 (.seq (al [aa 15 13,aa 5 15]) <|
  .seq (al [aa 16 0,aa 17 5,aZ 18 3 16 17,aK 19 3 18,aa 20 1,aa 21 5,aZ 22 3 20 21,aK 23 3 22,((some 24),.op (.old (.binOp .neq 129 (.tmp 19) (.tmp 23) 129) 4))]) <|
  .cond (.tmp 24) (.seq (al [aY 4 false]) <|
  .ret) (.skip))) <|
  al [az 25 .add 13 1,aa 13 25]
def fu:SF:=⟨.seq (al [aY 4 false]) <|
  .seq (.seq (al [aa 6 0,aR 7 6,aa 8 1,aR 9 8,aS 10 .neq 7 9]) <|
  .cond (.tmp 10) (.seq (al [aY 4 false]) <|
  .ret) (.skip)) <|
  .seq (.seq (al [aa 11 0,aR 12 11,aJ 13 0]) <|
  .block 0 (.loop eT)) <|
  .seq (al [aY 4 true]) <|
  .ret,
  [.tmp 4],26⟩
theorem iC:bf Tryz.prog 162 []=some fu:=by kernel_rfl
def fL:SC :=
  .seq (al [aS 14 .lss 13 12]) <|
  .seq (.cond (.tmp 14) (.skip) (.exit 0)) <|
  .seq (.block 1 (.seq (al [aa 15 13,aa 5 15]) <|
  .seq (al [aa 16 0,aa 17 5,aZ 18 1 16 17,aw 19 18,aa 20 1,aa 21 5,aZ 22 1 20 21,aw 23 22,((some 24),.op (.iO .neq (.tmp 19) (.tmp 23)))]) <|
  .cond (.tmp 24) (.seq (al [aY 4 false]) <|
  .ret) (.skip))) <|
  al [az 25 .add 13 1,aa 13 25]
def fY:SF:=⟨.seq (al [aY 4 false]) <|
  .seq (.seq (al [aa 6 0,aR 7 6,aa 8 1,aR 9 8,aS 10 .neq 7 9]) <|
  .cond (.tmp 10) (.seq (al [aY 4 false]) <|
  .ret) (.skip)) <|
  .seq (.seq (al [aa 11 0,aR 12 11,aJ 13 0]) <|
  .block 0 (.loop fL)) <|
  .seq (al [aY 4 true]) <|
  .ret,
  [.tmp 4],26⟩
theorem jI:bf Tryz.prog 163 []=some fY:=by kernel_rfl
def g9:SC :=
  .seq (al [aS 14 .lss 13 12]) <|
  .seq (.cond (.tmp 14) (.skip) (.exit 0)) <|
  .seq (.block 1 (.seq (al [aa 15 13,aa 5 15]) <|
  .seq (al [aa 16 0,aa 17 5,aZ 18 1 16 17,aw 19 18,aa 20 1,aa 21 5,aZ 22 1 20 21,aw 23 22,aS 24 .neq 19 23]) <|
  .cond (.tmp 24) (.seq (al [aY 4 false]) <|
  .ret) (.skip))) <|
  al [az 25 .add 13 1,aa 13 25]
def iG:SF:=⟨.seq (al [aY 4 false]) <|
  .seq (.seq (al [aa 6 0,aR 7 6,aa 8 1,aR 9 8,aS 10 .neq 7 9]) <|
  .cond (.tmp 10) (.seq (al [aY 4 false]) <|
  .ret) (.skip)) <|
  .seq (.seq (al [aa 11 0,aR 12 11,aJ 13 0]) <|
  .block 0 (.loop g9)) <|
  .seq (al [aY 4 true]) <|
  .ret,
  [.tmp 4],26⟩
theorem mo:bf Tryz.prog 198 []=some iG:=by kernel_rfl
def wP:SF:=⟨.seq (al [bQ 2 0,bQ 3 1,aY 4 false]) <|
  .seq (.region false [⟨none,[au 5 0 2,aw 6 5,au 7 0 3,aw 8 7,aS 9 .eql 6 8,aa 10 9]⟩,⟨(some (10,true)),[au 11 2 2,aw 12 11,au 13 2 3,aw 14 13,aS 15 .eql 12 14]⟩,⟨none,[bz 16 10 15,aa 17 16]⟩,⟨(some (17,true)),[au 18 1 2,aw 19 18,au 20 1 3,aw 21 20,aH 22 198 [19,21]]⟩,⟨none,[bz 23 17 22,aa 4 23]⟩]) <|
  .ret,
  [.tmp 4],24⟩
theorem Aw:bf Tryz.prog 165 [2,3]=some wP:=by kernel_rfl
def cE:SC :=
  .seq (al [aS 18 .lss 17 16]) <|
  .seq (.cond (.tmp 18) (.skip) (.exit 0)) <|
  .seq (.block 1 (.seq (al [aa 19 17,aZ 20 3 15 17,aK 21 3 20,((some 8),.op (.alloc [(.val (.int .i64 0)),(.emp 1),(.val (.int .i64 0))])),aa 7 19,(none,.op (.store 3 (.tmp 8) (.tmp 21)))]) <|
  .seq (al [aa 22 1,aa 23 7,aZ 24 3 22 23,aK 25 3 24,((some 9),.op (.alloc [(.val (.int .i64 0)),(.emp 1),(.val (.int .i64 0))])),(none,.op (.store 3 (.tmp 9) (.tmp 25)))]) <|
  .seq (al [aa 26 2,aK 27 3 8,aK 28 3 9,((some 29),.call (.tmp 26) [(.tmp 27),(.tmp 28)]),b7 30 29]) <|
  .cond (.tmp 30) (.seq (al [aY 6 false]) <|
  .ret) (.skip))) <|
  al [az 31 .add 17 1,aa 17 31]
def cL:SF:=⟨.seq (al [aY 6 false]) <|
  .seq (.seq (al [aa 10 0,aR 11 10,aa 12 1,aR 13 12,aS 14 .neq 11 13]) <|
  .cond (.tmp 14) (.seq (al [aY 6 false]) <|
  .ret) (.skip)) <|
  .seq (.seq (al [aa 15 0,aR 16 15,aJ 17 0]) <|
  .block 0 (.loop cE)) <|
  .seq (al [aY 6 true]) <|
  .ret,
  [.tmp 6],32⟩
theorem dY:bf Tryz.prog 164 []=some cL:=by kernel_rfl
def yX:SF:=⟨.seq (al [bQ 2 0,bQ 3 1,aY 4 false]) <|
  .seq (.region false [⟨none,[au 5 0 2,aw 6 5,au 7 0 3,aw 8 7,aH 9 162 [6,8],aa 10 9]⟩,⟨(some (10,true)),[au 11 1 2,aw 12 11,au 13 1 3,aw 14 13,aH 15 163 [12,14]]⟩,⟨none,[bz 16 10 15,aa 17 16]⟩,⟨(some (17,true)),[au 18 2 2,aw 19 18,au 20 2 3,aw 21 20,cX 22 164 [(.tmp 19),(.tmp 21),(.val (.fn 165 [] []))]]⟩,⟨none,[bz 23 17 22,aa 24 23]⟩,⟨(some (24,true)),[au 25 3 2,aw 26 25,au 27 3 3,aw 28 27,aS 29 .eql 26 28]⟩,⟨none,[bz 30 24 29,aa 4 30]⟩]) <|
  .ret,
  [.tmp 4],31⟩
theorem BQ:bf Tryz.prog 110 [2,3]=some yX:=by kernel_rfl
theorem Iz {α:Type} {f g:α→List V} {a b:List α} (hf:∀ x,∀ v∈f x,Tree v) (hg:∀ x,∀ v∈g x,Tree v):∀ v∈[V.aP (a.map f),V.aP (b.map g)],Tree v:=by
  intro v hv; simp at hv
  rcases hv with rfl | rfl
  · exact fv _ _ fun x _=>hf x
  · exact fv _ _ fun x _=>hg x
theorem IW (a b:List Term) (ha:bc a) (H:View):aB Tryz.prog 162 [.aP (a.map cU),.aP (b.map cU)] H fun r _=>r=gb (decide (a=b)):=by
  refine aB.of mixed iC ?_
  unfold bc at ha
  simp (disch:=omega) only [↓wr,↓reduceIte,wq,ah,ag,aj,ab,ae,af,ai,isNil,Nat.reduceEqDiff,Nat.reduceAdd,Nat.reduceLT,Nat.reduceLeDiff,Int.reduceNeg,Int.reduceToNat,reduceCtorEq,fu]
  refine av.ne (fun h=>?_) (fun h=>?_)
  · simp (disch:=omega) only [↓wr,↓reduceIte,wq,ah,ag,aj,ab,ae,af,ai,isNil,Nat.reduceEqDiff,Nat.reduceAdd,Nat.reduceLT,Nat.reduceLeDiff,Int.reduceNeg,Int.reduceToNat,reduceCtorEq]
    rw[decide_eq_false (yA (by omega))]
  · simp (disch:=omega) only [↓wr,↓reduceIte,wq,ah,ag,aj,ab,ae,af,ai,isNil,Nat.reduceEqDiff,Nat.reduceAdd,Nat.reduceLT,Nat.reduceLeDiff,Int.reduceNeg,Int.reduceToNat,reduceCtorEq]
    refine bH.up a.length (fun i T _=>a.take i=b.take i∧T 0=.aP (a.map cU)∧T 1=.aP (b.map cU)∧T 12=gi a.length∧T 13=gi i) ⟨by simp,rfl,rfl,rfl,rfl⟩ ?_
    rintro i k T H hk ⟨hi,h0,h1,h7,h8⟩
    simp (disch:=omega) only [↓wr,↓reduceIte,wq,ah,ag,aj,ab,ae,af,ai,isNil,Nat.reduceEqDiff,Nat.reduceAdd,Nat.reduceLT,Nat.reduceLeDiff,Int.reduceNeg,Int.reduceToNat,reduceCtorEq,eT,h0,h1,h7,h8]
    refine av.dec (fun hc=>?_) (fun hc=>?_)
    · have h2:a[i]?=some (a[i]'(by omega)):=List.getElem?_eq_getElem (by omega)
      have h3:b[i]?=some (b[i]'(by omega)):=List.getElem?_eq_getElem (by omega)
      generalize a[i]'(by omega)=x at h2
      generalize b[i]'(by omega)=y at h3
      simp (disch:=omega) only [↓wr,↓reduceIte,wq,ah,ag,aj,ab,ae,af,ai,isNil,Nat.reduceEqDiff,Nat.reduceAdd,Nat.reduceLT,Nat.reduceLeDiff,Int.reduceNeg,Int.reduceToNat,reduceCtorEq,h0,h1,h7,h8,List.getElem?_map,h2,h3,cU]
      refine jY (xs:=#[.string x.name,.int .i64 x.level,.int .i64 x.assoc]) (ys:=#[.string y.name,.int .i64 y.level,.int .i64 y.assoc]) Tryz.underlying129 (by kernel_rfl) (by kernel_rfl) ?_ ?_ (EC x y) (.inr ⟨rfl,rfl⟩) ?_
      · rfl
      · rfl
      rw[Mp]
      simp (disch:=omega) only [↓wr,↓reduceIte,wq,ah,ag,aj,ab,ae,af,ai,isNil,Nat.reduceEqDiff,Nat.reduceAdd,Nat.reduceLT,Nat.reduceLeDiff,Int.reduceNeg,Int.reduceToNat,reduceCtorEq,h0,h1,h7,h8]
      refine av.split (fun e=>?_) (fun e=>?_)
      · simp (disch:=omega) only [↓wr,↓reduceIte,wq,ah,ag,aj,ab,ae,af,ai,isNil,Nat.reduceEqDiff,Nat.reduceAdd,Nat.reduceLT,Nat.reduceLeDiff,Int.reduceNeg,Int.reduceToNat,reduceCtorEq,h0,h1,h7,h8]
        exact bD hk (by omega) ⟨vR h2 h3 hi (by simpa using e),h0,h1,h7,rfl⟩
      · simp (disch:=omega) only [↓wr,↓reduceIte,wq,ah,ag,aj,ab,ae,af,ai,isNil,Nat.reduceEqDiff,Nat.reduceAdd,Nat.reduceLT,Nat.reduceLeDiff,Int.reduceNeg,Int.reduceToNat,reduceCtorEq,h0,h1,h7,h8]
        rw[decide_eq_false (Ci h2 h3 (by simpa using e))]
    · simp (disch:=omega) only [↓wr,↓reduceIte,wq,ah,ag,aj,ab,ae,af,ai,isNil,Nat.reduceEqDiff,Nat.reduceAdd,Nat.reduceLT,Nat.reduceLeDiff,Int.reduceNeg,Int.reduceToNat,reduceCtorEq,h0,h1,h7,h8]
      rw[decide_eq_true (yU (by omega) (by omega) hi)]
theorem I8 (a b:List ByteArray) (ha:bc a) (H:View):aB Tryz.prog 163 [encS a,encS b] H fun r _=>r=gb (decide (a=b)):=by
  refine aB.of mixed jI ?_
  unfold bc at ha
  simp (disch:=omega) only [↓wr,↓reduceIte,wq,ah,ag,aj,ab,ae,af,ai,isNil,Nat.reduceEqDiff,Nat.reduceAdd,Nat.reduceLT,Nat.reduceLeDiff,Int.reduceNeg,Int.reduceToNat,reduceCtorEq,fY,encS]
  refine av.ne (fun h=>?_) (fun h=>?_)
  · simp (disch:=omega) only [↓wr,↓reduceIte,wq,ah,ag,aj,ab,ae,af,ai,isNil,Nat.reduceEqDiff,Nat.reduceAdd,Nat.reduceLT,Nat.reduceLeDiff,Int.reduceNeg,Int.reduceToNat,reduceCtorEq]
    rw[decide_eq_false (yA (by omega))]
  · simp (disch:=omega) only [↓wr,↓reduceIte,wq,ah,ag,aj,ab,ae,af,ai,isNil,Nat.reduceEqDiff,Nat.reduceAdd,Nat.reduceLT,Nat.reduceLeDiff,Int.reduceNeg,Int.reduceToNat,reduceCtorEq]
    refine bH.up a.length (fun i T _=>a.take i=b.take i∧T 0=encS a∧T 1=encS b∧T 12=gi a.length∧T 13=gi i) ⟨by simp,rfl,rfl,rfl,rfl⟩ ?_
    rintro i k T H hk ⟨hi,h0,h1,h7,h8⟩
    simp (disch:=omega) only [↓wr,↓reduceIte,wq,ah,ag,aj,ab,ae,af,ai,isNil,Nat.reduceEqDiff,Nat.reduceAdd,Nat.reduceLT,Nat.reduceLeDiff,Int.reduceNeg,Int.reduceToNat,reduceCtorEq,fL,h0,h1,h7,h8,encS]
    refine av.dec (fun hc=>?_) (fun hc=>?_)
    · have h2:a[i]?=some (a[i]'(by omega)):=List.getElem?_eq_getElem (by omega)
      have h3:b[i]?=some (b[i]'(by omega)):=List.getElem?_eq_getElem (by omega)
      generalize a[i]'(by omega)=x at h2
      generalize b[i]'(by omega)=y at h3
      simp (disch:=omega) only [↓wr,↓reduceIte,wq,ah,ag,aj,ab,ae,af,ai,isNil,Nat.reduceEqDiff,Nat.reduceAdd,Nat.reduceLT,Nat.reduceLeDiff,Int.reduceNeg,Int.reduceToNat,reduceCtorEq,h0,h1,h7,h8,encS,List.getElem?_map,h2,h3,Ie]
      refine av.split (fun e=>?_) (fun e=>?_)
      · simp (disch:=omega) only [↓wr,↓reduceIte,wq,ah,ag,aj,ab,ae,af,ai,isNil,Nat.reduceEqDiff,Nat.reduceAdd,Nat.reduceLT,Nat.reduceLeDiff,Int.reduceNeg,Int.reduceToNat,reduceCtorEq,h0,h1,h7,h8]
        exact bD hk (by omega) ⟨vR h2 h3 hi (by simpa using e),h0,h1,h7,rfl⟩
      · simp (disch:=omega) only [↓wr,↓reduceIte,wq,ah,ag,aj,ab,ae,af,ai,isNil,Nat.reduceEqDiff,Nat.reduceAdd,Nat.reduceLT,Nat.reduceLeDiff,Int.reduceNeg,Int.reduceToNat,reduceCtorEq,h0,h1,h7,h8]
        rw[decide_eq_false (Ci h2 h3 (by simpa using e))]
    · simp (disch:=omega) only [↓wr,↓reduceIte,wq,ah,ag,aj,ab,ae,af,ai,isNil,Nat.reduceEqDiff,Nat.reduceAdd,Nat.reduceLT,Nat.reduceLeDiff,Int.reduceNeg,Int.reduceToNat,reduceCtorEq,h0,h1,h7,h8]
      rw[decide_eq_true (yU (by omega) (by omega) hi)]
theorem J3 (a b:List Int) (ha:bc a) (H:View):aB Tryz.prog 198 [encI a,encI b] H fun r _=>r=gb (decide (a=b)):=by
  refine aB.of mixed mo ?_
  unfold bc at ha
  simp (disch:=omega) only [↓wr,↓reduceIte,wq,ah,ag,aj,ab,ae,af,ai,isNil,Nat.reduceEqDiff,Nat.reduceAdd,Nat.reduceLT,Nat.reduceLeDiff,Int.reduceNeg,Int.reduceToNat,reduceCtorEq,iG,encI]
  refine av.ne (fun h=>?_) (fun h=>?_)
  · simp (disch:=omega) only [↓wr,↓reduceIte,wq,ah,ag,aj,ab,ae,af,ai,isNil,Nat.reduceEqDiff,Nat.reduceAdd,Nat.reduceLT,Nat.reduceLeDiff,Int.reduceNeg,Int.reduceToNat,reduceCtorEq]
    rw[decide_eq_false (yA (by omega))]
  · simp (disch:=omega) only [↓wr,↓reduceIte,wq,ah,ag,aj,ab,ae,af,ai,isNil,Nat.reduceEqDiff,Nat.reduceAdd,Nat.reduceLT,Nat.reduceLeDiff,Int.reduceNeg,Int.reduceToNat,reduceCtorEq]
    refine bH.up a.length (fun i T _=>a.take i=b.take i∧T 0=encI a∧T 1=encI b∧T 12=gi a.length∧T 13=gi i) ⟨by simp,rfl,rfl,rfl,rfl⟩ ?_
    rintro i k T H hk ⟨hi,h0,h1,h7,h8⟩
    simp (disch:=omega) only [↓wr,↓reduceIte,wq,ah,ag,aj,ab,ae,af,ai,isNil,Nat.reduceEqDiff,Nat.reduceAdd,Nat.reduceLT,Nat.reduceLeDiff,Int.reduceNeg,Int.reduceToNat,reduceCtorEq,g9,h0,h1,h7,h8,encI]
    refine av.dec (fun hc=>?_) (fun hc=>?_)
    · have h2:a[i]?=some (a[i]'(by omega)):=List.getElem?_eq_getElem (by omega)
      have h3:b[i]?=some (b[i]'(by omega)):=List.getElem?_eq_getElem (by omega)
      generalize a[i]'(by omega)=x at h2
      generalize b[i]'(by omega)=y at h3
      simp (disch:=omega) only [↓wr,↓reduceIte,wq,ah,ag,aj,ab,ae,af,ai,isNil,Nat.reduceEqDiff,Nat.reduceAdd,Nat.reduceLT,Nat.reduceLeDiff,Int.reduceNeg,Int.reduceToNat,reduceCtorEq,h0,h1,h7,h8,encI,List.getElem?_map,h2,h3]
      refine av.ne (fun e=>?_) (fun e=>?_)
      · simp (disch:=omega) only [↓wr,↓reduceIte,wq,ah,ag,aj,ab,ae,af,ai,isNil,Nat.reduceEqDiff,Nat.reduceAdd,Nat.reduceLT,Nat.reduceLeDiff,Int.reduceNeg,Int.reduceToNat,reduceCtorEq,h0,h1,h7,h8]
        rw[decide_eq_false (Ci h2 h3 e)]
      · simp (disch:=omega) only [↓wr,↓reduceIte,wq,ah,ag,aj,ab,ae,af,ai,isNil,Nat.reduceEqDiff,Nat.reduceAdd,Nat.reduceLT,Nat.reduceLeDiff,Int.reduceNeg,Int.reduceToNat,reduceCtorEq,h0,h1,h7,h8]
        exact bD hk (by omega) ⟨vR h2 h3 hi e,h0,h1,h7,rfl⟩
    · simp (disch:=omega) only [↓wr,↓reduceIte,wq,ah,ag,aj,ab,ae,af,ai,isNil,Nat.reduceEqDiff,Nat.reduceAdd,Nat.reduceLT,Nat.reduceLeDiff,Int.reduceNeg,Int.reduceToNat,reduceCtorEq,h0,h1,h7,h8]
      rw[decide_eq_true (yU (by omega) (by omega) hi)]
theorem Jw (a b:List Term) (ha:bc a):aE Tryz.prog 162 [.aP (a.map cU),.aP (b.map cU)] (gb (decide (a=b))):=aE.val (Iz p7 p7) (IW a b ha)
theorem JF (a b:List ByteArray) (ha:bc a):aE Tryz.prog 163 [encS a,encS b] (gb (decide (a=b))):=aE.val (by
  intro v hv; simp at hv
  rcases hv with rfl | rfl <;> exact vf _) (I8 a b ha)
theorem Ib (a b:List Int) (ha:bc a):aE Tryz.prog 198 [encI a,encI b] (gb (decide (a=b))):=aE.val (by
  intro v hv; simp at hv
  rcases hv with rfl | rfl <;> exact jc _) (J3 a b ha)
theorem Kr (x y:aN) (hx:bc x.right):aE Tryz.prog 165 [.agg (bo x),.agg (bo y)] (gb (decide (x=y))):=by
  refine aE.val (by
    intro v hv; simp at hv
    rcases hv with rfl | rfl <;> exact cg _ (fM _)) fun H=>?_
  rw[KD]
  refine aB.of mixed Aw ?_
  simp (disch:=omega) only [↓wr,↓reduceIte,wq,ah,ag,aj,ab,ae,af,ai,isNil,Nat.reduceEqDiff,Nat.reduceAdd,Nat.reduceLT,Nat.reduceLeDiff,Int.reduceNeg,Int.reduceToNat,reduceCtorEq,wP,bo,encI]
  repeat' (first | (refine av.dec (fun _=>?_) (fun _=>?_)) | (refine av.eq (fun _=>?_) (fun _=>?_)) | (refine av.ne (fun _=>?_) (fun _=>?_)) | (refine av.split (fun _=>?_) (fun _=>?_)) | (refine aG.pure (Ib x.right y.right hx) (by kernel_rfl) ?_) | (simp (disch:=omega) only [↓wr,↓reduceIte,wq,ah,ag,aj,ab,ae,af,ai,isNil,Nat.reduceEqDiff,Nat.reduceAdd,Nat.reduceLT,Nat.reduceLeDiff,Int.reduceNeg,Int.reduceToNat,reduceCtorEq,bo]))
  all_goals simp[*]
theorem CR (a b:List aN) (ha:bc a) (hr:∀ r∈a,bc r.right) (H:View):aB Tryz.prog 164 [.aP (a.map bo),.aP (b.map bo),.fn 165 [] []] H fun r _=>r=gb (decide (a=b)):=by
  refine aB.of mixed dY ?_
  unfold bc at ha
  simp (disch:=omega) only [↓wr,↓reduceIte,wq,ah,ag,aj,ab,ae,af,ai,isNil,Nat.reduceEqDiff,Nat.reduceAdd,Nat.reduceLT,Nat.reduceLeDiff,Int.reduceNeg,Int.reduceToNat,reduceCtorEq,cL]
  refine av.ne (fun h=>?_) (fun h=>?_)
  · simp (disch:=omega) only [↓wr,↓reduceIte,wq,ah,ag,aj,ab,ae,af,ai,isNil,Nat.reduceEqDiff,Nat.reduceAdd,Nat.reduceLT,Nat.reduceLeDiff,Int.reduceNeg,Int.reduceToNat,reduceCtorEq]
    rw[decide_eq_false (yA (by omega))]
  · simp (disch:=omega) only [↓wr,↓reduceIte,wq,ah,ag,aj,ab,ae,af,ai,isNil,Nat.reduceEqDiff,Nat.reduceAdd,Nat.reduceLT,Nat.reduceLeDiff,Int.reduceNeg,Int.reduceToNat,reduceCtorEq]
    refine bH.up a.length (fun i T _=>a.take i=b.take i∧T 15=.aP (a.map bo)∧T 1=.aP (b.map bo)∧T 2=.fn 165 [] []∧T 16=gi a.length∧T 17=gi i) ⟨by simp,rfl,rfl,rfl,rfl,rfl⟩ ?_
    rintro i k T H hk ⟨hi,h0,h1,h6,h7,h8⟩
    simp (disch:=omega) only [↓wr,↓reduceIte,wq,ah,ag,aj,ab,ae,af,ai,isNil,Nat.reduceEqDiff,Nat.reduceAdd,Nat.reduceLT,Nat.reduceLeDiff,Int.reduceNeg,Int.reduceToNat,reduceCtorEq,cE,h0,h1,h6,h7,h8]
    refine av.dec (fun hc=>?_) (fun hc=>?_)
    · have h2:a[i]?=some (a[i]'(by omega)):=List.getElem?_eq_getElem (by omega)
      have h3:b[i]?=some (b[i]'(by omega)):=List.getElem?_eq_getElem (by omega)
      have hm:a[i]'(by omega)∈a:=List.getElem_mem _
      generalize a[i]'(by omega)=x at h2 hm
      generalize b[i]'(by omega)=y at h3
      have hsx:=hr x hm
      simp (disch:=omega) only [↓wr,↓reduceIte,wq,ah,ag,aj,ab,ae,af,ai,isNil,Nat.reduceEqDiff,Nat.reduceAdd,Nat.reduceLT,Nat.reduceLeDiff,Int.reduceNeg,Int.reduceToNat,reduceCtorEq,h0,h1,h6,h7,h8,List.getElem?_map,h2,h3,bo,encI]
      intro n hn
      try simp (disch:=omega) only [↓wr,↓reduceIte,wq,ah,ag,aj,ab,ae,af,ai,isNil,Nat.reduceEqDiff,Nat.reduceAdd,Nat.reduceLT,Nat.reduceLeDiff,Int.reduceNeg,Int.reduceToNat,reduceCtorEq,h0,h1,h6,h7,h8,List.getElem?_map,h2,h3,bo,encI]
      intro m hmd
      have hmn:=(fQ hmd fU).1
      try simp (disch:=omega) only [↓wr,↓reduceIte,wq,ah,ag,aj,ab,ae,af,ai,isNil,Nat.reduceEqDiff,Nat.reduceAdd,Nat.reduceLT,Nat.reduceLeDiff,Int.reduceNeg,Int.reduceToNat,reduceCtorEq,h0,h1,h6,h7,h8,List.getElem?_map,h2,h3,bo,encI,hmn,hmn.symm]
      refine aG.pure (Kr x y hsx) (by kernel_rfl) ?_
      simp (disch:=omega) only [↓wr,↓reduceIte,wq,ah,ag,aj,ab,ae,af,ai,isNil,Nat.reduceEqDiff,Nat.reduceAdd,Nat.reduceLT,Nat.reduceLeDiff,Int.reduceNeg,Int.reduceToNat,reduceCtorEq,h0,h1,h6,h7,h8]
      refine av.split (fun e=>?_) (fun e=>?_)
      · simp (disch:=omega) only [↓wr,↓reduceIte,wq,ah,ag,aj,ab,ae,af,ai,isNil,Nat.reduceEqDiff,Nat.reduceAdd,Nat.reduceLT,Nat.reduceLeDiff,Int.reduceNeg,Int.reduceToNat,reduceCtorEq,h0,h1,h6,h7,h8]
        exact bD hk (by omega) ⟨vR h2 h3 hi (by simpa using e),h0,h1,h6,h7,rfl⟩
      · simp (disch:=omega) only [↓wr,↓reduceIte,wq,ah,ag,aj,ab,ae,af,ai,isNil,Nat.reduceEqDiff,Nat.reduceAdd,Nat.reduceLT,Nat.reduceLeDiff,Int.reduceNeg,Int.reduceToNat,reduceCtorEq,h0,h1,h6,h7,h8]
        rw[decide_eq_false (Ci h2 h3 (by simpa using e))]
    · simp (disch:=omega) only [↓wr,↓reduceIte,wq,ah,ag,aj,ab,ae,af,ai,isNil,Nat.reduceEqDiff,Nat.reduceAdd,Nat.reduceLT,Nat.reduceLeDiff,Int.reduceNeg,Int.reduceToNat,reduceCtorEq,h0,h1,h6,h7,h8]
      rw[decide_eq_true (yU (by omega) (by omega) hi)]
theorem D0 (a b:List aN) (ha:bc a) (hr:∀ r∈a,bc r.right):aE Tryz.prog 164 [.aP (a.map bo),.aP (b.map bo),.fn 165 [] []] (gb (decide (a=b))):=aE.val (by
  intro v hv; simp at hv
  rcases hv with rfl | rfl | rfl
  · exact fv _ _ fun x _=>fM x
  · exact fv _ _ fun x _=>fM x
  · exact Ai (by simp) (by simp)) (CR a b ha hr)
theorem KQ (g k:ao) (hg:g.Ok):aE Tryz.prog 110 [.agg (ax g),.agg (ax k)] (gb (decide (g=k))):=by
  refine aE.val (I5 g k) fun H=>?_
  rw[La]
  refine aB.of mixed BQ ?_
  simp (disch:=omega) only [↓wr,↓reduceIte,wq,ah,ag,aj,ab,ae,af,ai,isNil,Nat.reduceEqDiff,Nat.reduceAdd,Nat.reduceLT,Nat.reduceLeDiff,Int.reduceNeg,Int.reduceToNat,reduceCtorEq,yX,ax,encS]
  repeat' (first | (refine av.dec (fun _=>?_) (fun _=>?_)) | (refine av.eq (fun _=>?_) (fun _=>?_)) | (refine av.ne (fun _=>?_) (fun _=>?_)) | (refine av.split (fun _=>?_) (fun _=>?_)) | (refine aG.pure (Jw g.aA k.aA hg.aA) (by kernel_rfl) ?_) | (refine aG.pure (JF g.aC k.aC hg.aC) (by kernel_rfl) ?_) | (refine aG.pure (D0 g.rules k.rules hg.rules (fun r hr=>(hg.aF r hr).2.2.1)) (by kernel_rfl) ?_) | (simp (disch:=omega) only [↓wr,↓reduceIte,wq,ah,ag,aj,ab,ae,af,ai,isNil,Nat.reduceEqDiff,Nat.reduceAdd,Nat.reduceLT,Nat.reduceLeDiff,Int.reduceNeg,Int.reduceToNat,reduceCtorEq,ax,encS]))
  all_goals simp_all [Mf]
def Bi:SF:=⟨.seq (al [bQ 1 0,aY 2 false]) <|
  .seq (al [aK 7 4 1,aH 8 109 [7],aa 6 8,cB 9 0 6,cB 10 1 6,cB 11 2 6,((some 3),.op (.alloc [(.emp 1),(.emp 1),(.emp 1),(.val (.int .i64 0))])),(none,.op (.store 4 (.tmp 3) (.tmp 9))),aa 4 10,aa 5 11]) <|
  .seq (.region false [⟨none,[aa 12 5,az 13 .eql 12 0,aa 14 13]⟩,⟨(some (14,true)),[aK 15 4 1,aK 16 4 3,aH 17 110 [15,16]]⟩,⟨none,[bz 18 14 17,aa 2 18]⟩]) <|
  .ret,
  [.tmp 2],19⟩
theorem Em:bf Tryz.prog 61 [1]=some Bi:=by kernel_rfl
theorem I7 (g:ao) (hg:g.Ok) (hs:g.Small):aE Tryz.prog 61 [.agg (ax g)] (gb (isRed g)):=by
  refine aE.val (jj g) fun H=>?_
  refine aB.of mixed Em ?_
  simp (disch:=omega) only [↓wr,↓reduceIte,wq,ah,ag,aj,ab,ae,af,ai,isNil,Nat.reduceEqDiff,Nat.reduceAdd,Nat.reduceLT,Nat.reduceLeDiff,Int.reduceNeg,Int.reduceToNat,reduceCtorEq,Bi,ax,encS]
  refine aG.pure (Gk g hg hs).pure (by kernel_rfl) ?_
  unfold isRed
  generalize ie g=x
  obtain ⟨k,il,e⟩:=x
  simp (disch:=omega) only [↓wr,↓reduceIte,wq,ah,ag,aj,ab,ae,af,ai,isNil,Nat.reduceEqDiff,Nat.reduceAdd,Nat.reduceLT,Nat.reduceLeDiff,Int.reduceNeg,Int.reduceToNat,reduceCtorEq,zR,ax,encS]
  intro n hn
  refine av.eq (fun h=>?_) (fun h=>?_)
  · simp (disch:=omega) only [↓wr,↓reduceIte,wq,ah,ag,aj,ab,ae,af,ai,isNil,Nat.reduceEqDiff,Nat.reduceAdd,Nat.reduceLT,Nat.reduceLeDiff,Int.reduceNeg,Int.reduceToNat,reduceCtorEq,zR,ax,encS]
    refine aG.pure (KQ g k hg) (by kernel_rfl) ?_
    simp (disch:=omega) only [↓wr,↓reduceIte,wq,ah,ag,aj,ab,ae,af,ai,isNil,Nat.reduceEqDiff,Nat.reduceAdd,Nat.reduceLT,Nat.reduceLeDiff,Int.reduceNeg,Int.reduceToNat,reduceCtorEq]
    simp[h]
  · simp (disch:=omega) only [↓wr,↓reduceIte,wq,ah,ag,aj,ab,ae,af,ai,isNil,Nat.reduceEqDiff,Nat.reduceAdd,Nat.reduceLT,Nat.reduceLeDiff,Int.reduceNeg,Int.reduceToNat,reduceCtorEq]
    simp[h]
def NO:ao:=⟨[⟨⟨#[39,97,39]⟩,0,0⟩,⟨⟨#[39,98,39]⟩,0,0⟩,⟨⟨#[39,99,39]⟩,0,0⟩,⟨⟨#[39,100,39]⟩,0,0⟩],[⟨#[115]⟩,⟨#[117]⟩,⟨#[118]⟩],[⟨0,[0,(-2)],0⟩,⟨0,[1],1⟩,⟨0,[],(-1)⟩,⟨1,[(-2),2],2⟩,⟨2,[3,(-1)],3⟩],0⟩
def Ni:ao:=⟨NO.aA,[⟨#[115]⟩],[⟨0,[1],1⟩,⟨0,[],(-1)⟩],0⟩
theorem lO:isRed Ni=true:=by kernel_rfl
structure ao.Pb (g:ao):Prop where
  aA:g.aA.length≤40
  aC:g.aC.length≤40
  rules:g.rules.length≤60
  right:∀ r∈g.rules,r.right.length≤20
theorem dJ.fr {h:aD} {v t:V} (f:dJ h v t):Fr h v t:=by
  induction f with
  | val v=>exact .tree _ (.val _)
  | emp k=>exact .emp k
  | sl id off len esz z es es' h1 h2 h3 h4 _ ih=>exact .sl id off len esz z es es' h1 h2 h3 h4 ih
  | agg cs cs' h1 _ ih=>exact .agg cs cs' h1 ih
  | bg cs cs' h1 _ ih=>exact .bg cs cs' h1 ih
def y8 (p:bL):List V:=[gi p.aF,gi p.cA,gi p.rules,gi p.aA]
abbrev G5 (P:List bL):V:=.aP (P.map y8)
theorem Hg (P:List bL):Tree (G5 P):=fv _ _ fun x _ v hv=>by
  simp[y8] at hv
  rcases hv with rfl | rfl | rfl | rfl <;> exact .val _
theorem GV (p:bL):∀ v∈y8 p,Tree v:=by
  intro v hv; simp[y8] at hv
  rcases hv with rfl | rfl | rfl | rfl <;> exact .val _
def xg (H:View) (u:V) (P:List bL):Prop:=u=G5 P∨aO H u 4 (P.map y8)
theorem xg.GW {H:View} {u:V} {P:List bL} (h:xg H u P):dQ H u (G5 P):=by
  rcases h with rfl | h
  · exact dQ.tree (Hg P)
  · exact dQ.own h fun e he v hv=>by
      obtain ⟨p,_,rfl⟩:=List.mem_map.1 he
      exact GV p v hv
theorem xg.keep {H H':View} {u:V} {P:List bL} (h:xg H u P) (hk:∀ id,owner u=some id→H' id=H id):xg H' u P:=h.imp id fun h=>h.keep hk
theorem xg.live {H:View} {u:V} {P:List bL} (h:xg H u P) {id:Nat} (hid:owner u=some id):H id≠.dead:=by
  rcases h with rfl | h
  · simp[owner] at hid
  · rw[(h.live hid).1]; simp
def LP (s:Int × Int):Prop:=(0≤s.1∧s.1≤1000)∧(0≤s.2∧s.2≤1000)
def vS (g:ao):List (Int × Int):=(dy g).map vD
theorem vQ:vD pJ=(0,0):=by decide
theorem Lc (g:ao) (m:Nat):pw (vS g) m=vD (ca (dy g) m):=by
  simp only[vS,pw,ca,List.getD_eq_getElem?_getD,List.getElem?_map]
  cases (dy g)[m]? <;> rfl
theorem MQ (g:ao) (m:Nat):LP (vD (ca (dy g) m)):=by
  have h:lJ (ca (dy g) m):=uA g _ m
  unfold lJ at h
  unfold LP vD; simp only; omega
def ia (g:ao) (j i:Nat) (S:List (Int × Int)):Prop:=S.length=g.aC.length∧∀ m,pw S m=if (ca (dy g) m).cA≤j∨((ca (dy g) m).cA=j+1∧m < i) then vD (ca (dy g) m) else (0,0)
theorem ia.ok {g:ao} {j i:Nat} {S:List (Int × Int)} (h:ia g j i S) (m:Nat):LP (pw S m):=by
  rw[h.2 m]; split
  · exact MQ g m
  · unfold LP; simp
theorem Me {S:List (Int × Int)} {i m:Nat} {v:Int × Int} (hm:m < S.length):pw (S.set i v) m=if i=m then v else pw S m:=by
  simp only[pw,List.getD_eq_getElem?_getD,List.getElem?_set]
  split
  · rename_i e; subst e; simp[hm]
  · rfl
theorem ia.next {g:ao} {j i:Nat} {S:List (Int × Int)} (h:ia g j i S) (hi:(ca (dy g) i).cA≠(j:Int)+1):ia g j (i+1) S:=⟨h.1,fun m=>by
  rw[h.2 m]
  by_cases e:m=i
  · subst e
    by_cases h1:(ca (dy g) m).cA≤j
    · rw[if_pos (.inl h1),if_pos (.inl h1)]
    · rw[if_neg (by omega),if_neg (by omega)]
  · congr 1
    simp only[eq_iff_iff]
    constructor <;> rintro (h1 | h1) <;> first | exact .inl h1 | exact .inr ⟨h1.1,by omega⟩⟩
theorem ia.put {g:ao} {j i:Nat} {S:List (Int × Int)} (h:ia g j i S) (hi:(ca (dy g) i).cA=(j:Int)+1) (hn:i < g.aC.length):ia g j (i+1) (S.set i (vD (ca (dy g) i))):=⟨by simp[h.1],fun m=>by
  by_cases hm:m < S.length
  · rw[Me hm]
    by_cases e:i=m
    · subst e; rw[if_pos rfl,if_pos (.inr ⟨hi,by omega⟩)]
    · rw[if_neg e,h.2 m]
      congr 1
      simp only[eq_iff_iff]
      constructor <;> rintro (h1 | h1) <;> first | exact .inl h1 | exact .inr ⟨h1.1,by omega⟩
  · have:ca (dy g) m=pJ:=rj (by rw[uf,← h.1]; omega)
    have e:pw (S.set i (vD (ca (dy g) i))) m=(0,0):=by
      simp only[pw,List.getD_eq_getElem?_getD]; rw[List.getElem?_eq_none (by simp; omega)]; rfl
    rw[e,this]
    split <;> simp[vQ]⟩
theorem ia.N0 {g:ao} {j:Nat} {S:List (Int × Int)} (h:ia g j g.aC.length S):ia g (j+1) 0 S:=⟨h.1,fun m=>by
  rw[h.2 m]
  by_cases hm:m < g.aC.length
  · congr 1
    simp only[eq_iff_iff]
    push_cast
    constructor
    · rintro (h1 | h1) <;> left <;> omega
    · rintro (h1 | h1)
      · omega
      · omega
  · have:ca (dy g) m=pJ:=rj (by rw[uf]; omega)
    rw[this]; split <;> split <;> simp[vQ]⟩
theorem ia.start (g:ao):ia g 0 0 (List.replicate g.aC.length (0,0)):=⟨by simp,fun m=>by
  have e:pw (List.replicate g.aC.length (0,0)) m=(0,0):=by
    simp only[pw,List.getD_eq_getElem?_getD,List.getElem?_replicate]
    split <;> rfl
  rw[e]
  split
  · rename_i h
    by_cases hk:cI (dy g) m
    · have:=(wx hk).1; omega
    · rw[CL hk]; simp[vQ]
  · rfl⟩
theorem ia.done {g:ao} {S:List (Int × Int)} (h:ia g g.aC.length 0 S):S=vS g:=by
  apply List.ext_getElem (by simp[h.1,vS,uf])
  intro m h1 h2
  have e:S[m]=pw S m:=by simp[pw,List.getD_eq_getElem?_getD,h1]
  have e2:(vS g)[m]=pw (vS g) m:=by simp[pw,List.getD_eq_getElem?_getD,h2]
  rw[e,e2,h.2 m,Lc]
  by_cases hk:cI (dy g) m
  · rw[if_pos (.inl (wx hk).2)]
  · rw[CL hk]; split <;> simp[vQ]
def j6 {κ:Type} (kv:κ→V) (m:cd κ):List (V × V × Nat):=m.map fun x=>(kv x.1,x.2.1,x.2.2)
structure O9 {κ:Type} [BEq κ] (P:Program) (kt:TypeId) (kv:κ→V):Prop where
  find:∀ k e m,kU P kt (kv k) e (j6 kv m)=some (je k m)
  same:∀ k,sameKey (kv k) (kv k)=true
def Cg {κ:Type} (m:cd κ) (c:Nat):Prop:=(m.map (·.2.2)).Nodup∧∀ x∈m,x.2.2 < c
def kQ {κ:Type} [BEq κ] (m:cd κ) (k:κ):Option Nat:=(m.find? fun x=>k == x.1).map (·.2.2)
section
variable {κ:Type} [BEq κ] [LawfulBEq κ] {kv:κ→V}
theorem DE (k:κ):∀ m:cd κ,match je k m with
    | some i=>∃ x,m[i]?=some x∧x.1=k∧getM m k=some x.2.1∧kQ m k=some x.2.2∧(j6 kv m)[i]?=some (kv k,x.2.1,x.2.2)∧∀ v c,(j6 kv m).set i (kv k,v,x.2.2)=j6 kv (cy k v c m)∧kQ (cy k v c m) k=some x.2.2∧(cy k v c m).map (·.2.2)=m.map (·.2.2)
    | none=>getM m k=none∧kQ m k=none∧∀ v c,j6 kv m ++ [(kv k,v,c)]=j6 kv (cy k v c m)∧kQ (cy k v c m) k=some c∧(cy k v c m).map (·.2.2)=m.map (·.2.2) ++ [c]
  | []=>⟨rfl,rfl,fun v c=>⟨rfl,by simp[cy,kQ],rfl⟩⟩
  | x :: r=>by
    have ih:=DE k r
    simp only[je]
    cases hk:k == x.1 with
    | true =>
      have hx:x.1=k:=(eq_of_beq hk).symm
      exact ⟨x,rfl,hx,by simp[getM,hk],by simp[kQ,hk],by simp[j6,hx],fun v c=>by simp[cy,hk,j6,kQ]⟩
    | false =>
      simp only[Bool.false_eq_true,if_false]
      cases hi:je k r with
      | some i =>
        rw[hi] at ih
        obtain ⟨y,h1,h2,h3,h4,h5,h6⟩:=ih
        refine ⟨y,by simpa using h1,h2,by simpa [getM,hk] using h3,by simpa [kQ,hk] using h4,by simpa [j6] using h5,fun v c=>?_⟩
        obtain ⟨g1,g2,g3⟩:=h6 v c
        exact ⟨by simp only[j6] at g1 ⊢; simp[cy,hk,g1],by simpa [cy,hk,kQ] using g2,by simp[cy,hk,g3]⟩
      | none =>
        rw[hi] at ih
        refine ⟨by simpa [getM,hk] using ih.1,by simpa [kQ,hk] using ih.2.1,fun v c=>?_⟩
        obtain ⟨g1,g2,g3⟩:=ih.2.2 v c
        exact ⟨by simp only[j6] at g1 ⊢; simp[cy,hk,g1],by simpa [cy,hk,kQ] using g2,by simp[cy,hk,g3]⟩
theorem Cg.put {m:cd κ} {c:Nat} (h:Cg m c) (k:κ) (v:V):Cg (cy k v c m) (c+1):=by
  have hg:=DE (kv:=fun _=>V.any) k m
  cases hj:je k m with
  | some j =>
    rw[hj] at hg
    obtain ⟨y,_,_,_,_,_,h6⟩:=hg
    have e:=(h6 v c).2.2
    refine ⟨by rw[e]; exact h.1,fun x hx=>?_⟩
    have:x.2.2∈m.map (·.2.2):=by rw[← e]; exact List.mem_map.2 ⟨x,hx,rfl⟩
    obtain ⟨y,hy,e2⟩:=List.mem_map.1 this
    have:=h.2 y hy
    omega
  | none =>
    rw[hj] at hg
    have e:=(hg.2.2 v c).2.2
    refine ⟨?_,fun x hx=>?_⟩
    · rw[e,List.nodup_append]
      refine ⟨h.1,by simp,fun a ha b hb=>?_⟩
      simp at hb; subst hb
      obtain ⟨y,hy,rfl⟩:=List.mem_map.1 ha
      have:=h.2 y hy
      omega
    · have:x.2.2∈m.map (·.2.2) ++ [c]:=by rw[← e]; exact List.mem_map.2 ⟨x,hx,rfl⟩
      rcases List.mem_append.1 this with h1 | h1
      · obtain ⟨y,hy,e2⟩:=List.mem_map.1 h1
        have:=h.2 y hy
        omega
      · simp at h1; omega
variable {P:Program} {T:Env} {H:View} {kt et t ty:TypeId}
end
def sY (x:Item):List V:=[aj x.aF,aj x.dot,aj x.kq]
def OF (x:Item):V:=.agg (sY x)
structure Pc (P:Program) (kt:TypeId):Prop where
  ty:∃ f0 f1 f2:Field,P.underlying kt=some (.struct #[f0,f1,f2])∧f0.name≠ "_" ∧ f1.name≠ "_" ∧ f2.name≠ "_" ∧ P.underlying f0.type=some (.int .i64)∧P.underlying f1.type=some (.int .i64)∧P.underlying f2.type=some (.int .i64)∧f0.offset=0∧f1.offset=1∧f2.offset=2
  held:P.stoodInHeld kt=false
def O4 (m:cd Item) (s:List Item) (B:Nat):Prop:=∀ x,(x∈s→∃ k:Nat,getM m x=some (aj k)∧1≤k∧k≤B)∧(x ∉ s→getM m x=none)
structure px (H:View) (c sid mid:Nat) (sv:Nat→V) (mi:Nat→Nat) (mm:Nat→cd Item) (cl:Nat→Nat) (g:ao) (p:List Int) (nu:V) (S S1:Nat→List Item) (B n:Nat) (K:List (Nat × bM)):Prop where
  box:H c=.arr 8 [[.aP (g.aA.map cU),encS g.aC,.aP (g.rules.map bo),gi g.start,encI p,nu,.sl sid 0 n 1,.sl mid 0 n 1]]
  jf:H sid=.arr 1 ((List.range n).map fun j=>[sv j])
  seen:H mid=.arr 1 ((List.range n).map fun j=>[.mp (mi j)])
  set:∀ j,j < n→aO H (sv j) 3 ((S j).map sY)
  map:∀ j,j < n→H (mi j)=.map (j6 OF (mm j)) (cl j)∧Cg (mm j) (cl j)∧O4 (mm j) (S1 j) B
  ne:sid≠mid
  xc:∀ i j o,i < n→j < n→owner (sv i)=some o→owner (sv j)=some o→i=j
  GZ:∀ i j,i < n→j < n→mi i=mi j→i=j
  off:∀ q∈K,H q.1=q.2∧q.2≠.dead∧q.1≠sid∧(∀ j,j < n→q.1≠mi j)∧∀ j,j < n→owner (sv j)≠some q.1
def Ch (H:View) (c:Nat) (g:ao) (p:List Int) (nu:V) (S:Nat→List Item) (B n:Nat) (K:List (Nat × bM)):Prop:=∃ sid mid sv mi mm cl,px H c sid mid sv mi mm cl g p nu S S B n K
def uM (S:Nat→List Item) (a:Nat) (x:Item):Nat→List Item:=fun b=>if b=a then (if x∈S a then S a else S a ++ [x]) else S b
theorem Ch.more {H:View} {c:Nat} {g:ao} {p:List Int} {nu:V} {S:Nat→List Item} {B B' n:Nat} {K:List (Nat × bM)} (h:Ch H c g p nu S B n K) (hB:B≤B'):Ch H c g p nu S B' n K:=by
  obtain ⟨sid,mid,sv,mi,mm,cl,h⟩:=h
  refine ⟨sid,mid,sv,mi,mm,cl,h.box,h.jf,h.seen,h.set,fun j hj=>⟨(h.map j hj).1,(h.map j hj).2.1,fun x=>⟨fun hx=>?_,((h.map j hj).2.2 x).2⟩⟩,h.ne,h.xc,h.GZ,h.off⟩
  obtain ⟨k,h1,h2,h3⟩:=((h.map j hj).2.2 x).1 hx
  exact ⟨k,h1,h2,by omega⟩
theorem Ch.drop {H:View} {c:Nat} {g:ao} {p:List Int} {nu:V} {S:Nat→List Item} {B n:Nat} {q:Nat × bM} {K:List (Nat × bM)} (h:Ch H c g p nu S B n (q :: K)):Ch H c g p nu S B n K:=by
  obtain ⟨sid,mid,sv,mi,mm,cl,h⟩:=h
  exact ⟨sid,mid,sv,mi,mm,cl,h.box,h.jf,h.seen,h.set,h.map,h.ne,h.xc,h.GZ,fun q hq=>h.off q (by simp[hq])⟩
theorem px.new {H:View} {c sid mid:Nat} {sv:Nat→V} {mi:Nat→Nat} {mm:Nat→cd Item} {cl:Nat→Nat} {g:ao} {p:List Int} {nu:V} {S S1:Nat→List Item} {B n:Nat} {K:List (Nat × bM)} (h:px H c sid mid sv mi mm cl g p nu S S1 B n K)
    {b:Nat} {o:bM} (hb:H b=.dead) (ho:o≠.dead):px (H.set b o) c sid mid sv mi mm cl g p nu S S1 B n ((b,o) :: K):=by
  have keep:∀ id,H id≠.dead→(H.set b o) id=H id:=fun id hid=>by
    have e:id≠b:=by rintro rfl; exact hid hb
    simp[View.set,e]
  have live:∀ {id},H id≠.dead→b≠id:=fun hid e=>hid (e ▸ hb)
  refine ⟨?_,?_,?_,fun j hj=>?_,fun j hj=>?_,h.ne,h.xc,h.GZ,fun q hq=>?_⟩
  · rw[keep _ (by rw[h.box]; simp)]; exact h.box
  · rw[keep _ (by rw[h.jf]; simp)]; exact h.jf
  · rw[keep _ (by rw[h.seen]; simp)]; exact h.seen
  · exact (h.set j hj).fresh hb
  · rw[keep _ (by rw[(h.map j hj).1]; simp)]; exact h.map j hj
  · rcases List.mem_cons.1 hq with rfl | hq
    · refine ⟨by simp[View.set],ho,live (by rw[h.jf]; simp),fun j hj=>live (by rw[(h.map j hj).1]; simp),fun j hj=>?_⟩
      have:=(h.set j hj).ne hb
      exact this
    · obtain ⟨h1,h2,h3⟩:=h.off q hq
      exact ⟨by rw[keep _ (by rw[h1]; exact h2)]; exact h1,h2,h3⟩
theorem Ch.new {H:View} {c:Nat} {g:ao} {p:List Int} {nu:V} {S:Nat→List Item} {B n b:Nat} {o:bM} {K:List (Nat × bM)} (h:Ch H c g p nu S B n K) (hb:H b=.dead) (ho:o≠.dead):Ch (H.set b o) c g p nu S B n ((b,o) :: K):=by
  obtain ⟨sid,mid,sv,mi,mm,cl,h⟩:=h
  exact ⟨sid,mid,sv,mi,mm,cl,h.new hb ho⟩
theorem Ch.kept {H:View} {c:Nat} {g:ao} {p:List Int} {nu:V} {S:Nat→List Item} {B n:Nat} {K:List (Nat × bM)} (h:Ch H c g p nu S B n K):∀ q∈K,H q.1=q.2:=by
  obtain ⟨sid,mid,sv,mi,mm,cl,h⟩:=h
  exact fun q hq=>(h.off q hq).1
theorem px.OS {H H':View} {c sid mid:Nat} {sv:Nat→V} {mi:Nat→Nat} {mm:Nat→cd Item} {cl:Nat→Nat} {g:ao} {p:List Int} {nu:V} {S S1:Nat→List Item} {B n:Nat} {K:List (Nat × bM)} (h:px H c sid mid sv mi mm cl g p nu S S1 B n K)
    {at0:Nat} (ha:at0 < n) {x:Item} (hx:¬ x∈S at0) {u':V} (ho:aO H' u' 3 ((S at0).map sY ++ [sY x])) (hl:Left H H' (sv at0) u') :
    px (H'.set sid (.arr 1 (((List.range n).map fun j=>[sv j]).set at0 [u']))) c sid mid (fun j=>if j=at0 then u' else sv j) mi mm cl g p nu (uM S at0 x) S1 B n K:=by
  have own:∀ {id},owner (sv at0)=some id→H id=.arr 3 ((S at0).map sY):=fun hid=>((h.set at0 ha).live hid).1
  have n1:owner (sv at0)≠some sid:=fun e=>by
    have:=own e
    rw[h.jf] at this; simp at this
  have keep:∀ id,H id≠.dead→owner (sv at0)≠some id→H' id=H id∧owner u'≠some id:=hl
  have ns:=keep sid (by rw[h.jf]; simp) n1
  have keep2:∀ id,H id≠.dead→owner (sv at0)≠some id→id≠sid→(H'.set sid (.arr 1 (((List.range n).map fun j=>[sv j]).set at0 [u']))) id=H id:=fun id h1 h2 h3=>by
    simp only[View.set,if_neg h3]; exact (keep id h1 h2).1
  have no3:∀ {id o},H id=o→o≠.arr 3 ((S at0).map sY)→owner (sv at0)≠some id:=fun h1 h2 e=>h2 (by rw[← h1]; exact own e)
  refine ⟨?_,?_,?_,fun j hj=>?_,fun j hj=>?_,h.ne,fun i j o hi hj h1 h2=>?_,h.GZ,fun q hq=>?_⟩
  · rw[keep2 c (by rw[h.box]; simp) (no3 h.box (by simp)) (by rintro rfl; have:=h.box; rw[h.jf] at this; simp at this)]; exact h.box
  · simp only[View.set,if_true]
    congr 1
    rw[FX]
    apply List.map_congr_left
    intro j _
    split <;> rfl
  · rw[keep2 mid (by rw[h.seen]; simp) (no3 h.seen (by simp)) h.ne.symm]; exact h.seen
  · by_cases e:j=at0
    · subst e
      simp only[if_true,uM,if_neg hx,List.map_append,List.map_cons,List.map_nil]
      exact ho.other ns.2
    · simp only[if_neg e,uM]
      refine (h.set j hj).keep fun id hid=>?_
      have hlv:=((h.set j hj).live hid).1
      refine keep2 id (by rw[hlv]; simp) (fun e2=>e (h.xc j at0 id hj ha hid e2)) ?_
      rintro rfl; rw[h.jf] at hlv; simp at hlv
  · obtain ⟨g1,g2,g3⟩:=h.map j hj
    refine ⟨?_,g2,g3⟩
    rw[keep2 (mi j) (by rw[g1]; simp) (no3 g1 (by simp)) (by intro e; rw[e,h.jf] at g1; simp at g1)]; exact g1
  · by_cases e1:i=at0
    · by_cases e2:j=at0
      · omega
      · simp only[if_pos e1,if_neg e2] at h1 h2
        exfalso
        have hlv:=((h.set j hj).live h2).1
        exact (keep o (by rw[hlv]; simp) (fun e3=>e2 (h.xc j at0 o hj ha h2 e3))).2 h1
    · by_cases e2:j=at0
      · simp only[if_neg e1,if_pos e2] at h1 h2
        exfalso
        have hlv:=((h.set i hi).live h1).1
        exact (keep o (by rw[hlv]; simp) (fun e3=>e1 (h.xc i at0 o hi ha h1 e3))).2 h2
      · simp only[if_neg e1,if_neg e2] at h1 h2
        exact h.xc i j o hi hj h1 h2
  · obtain ⟨h1,h2,h3,h4,h5⟩:=h.off q hq
    refine ⟨?_,h2,h3,h4,fun j hj=>?_⟩
    · rw[keep2 q.1 (by rw[h1]; exact h2) (h5 at0 ha) h3]; exact h1
    · by_cases e:j=at0
      · simp only[if_pos e]; exact (keep q.1 (by rw[h1]; exact h2) (h5 at0 ha)).2
      · simp only[if_neg e]; exact h5 j hj
inductive DR (g:ao) (p:List Int):Int→Nat→Prop
  | start:DR g p g.start 0
  | step (R:aN) (l1 l2:List Int) (n:Int) (f a:Nat):R∈g.rules→R.right=l1 ++ (-1 - n) :: l2→DR g p R.left f→Sp g p l1 f a→DR g p n a
def Hu (g:ao) (p:List Int) (x:Item):Prop:=∃ R,g.rules[x.aF]?=some R∧DR g p R.left x.kq
inductive CM (g:ao) (p:List Int):Int→Nat→Prop
  | full (R:aN) (l1 l2:List Int) (f:Nat):R∈g.rules→R.right=l1 ++ l2→Sp g p l1 f p.length→CM g p R.left f
  | deep (R:aN) (l1 l2:List Int) (s:Int) (f a:Nat):R∈g.rules→R.right=l1 ++ s :: l2→s < 0→Sp g p l1 f a→a < p.length→CM g p (-1 - s) a→CM g p R.left f
theorem DR.len {g:ao} {p:List Int} {n:Int} {a:Nat} (h:DR g p n a):a≤p.length:=by
  induction h with
  | start=>omega
  | step _ _ _ _ _ _ _ _ _ hs ih=>exact hs.len ih
theorem Mq {l:List Int} {d:Nat} {s:Int} (h:l[d]?=some s):l=l.take d ++ s :: l.drop (d+1):=by
  have h1:=(List.getElem?_eq_some_iff.1 h)
  obtain ⟨hl,he⟩:=h1
  rw[← he]
  simp
theorem Hu.ask {g:ao} {p:List Int} {a:Nat} {x:Item} (h:Hu g p x) (hs:Sound g p a x) {R:aN} (hR:g.rules[x.aF]?=some R) {s:Int} (hd:R.right[x.dot]?=some s):DR g p (-1 - s) a:=by
  obtain ⟨R1,h1,h2⟩:=h
  obtain ⟨R2,h3,_,_,h4⟩:=hs
  rw[hR] at h1 h3; simp at h1 h3; subst h1; subst h3
  refine .step R (R.right.take x.dot) (R.right.drop (x.dot+1)) (-1 - s) x.kq a (List.mem_of_getElem? hR) ?_ h2 h4
  rw[show -1 - (-1 - s)=s by omega]
  exact Mq hd
theorem Sp.cut {g:ao} {p:List Int} {k:Nat} {l:List Int} {i j:Nat} (h:Sp g p l i j):j≤k→Sp g (p.take k) l i j:=by
  induction h with
  | nil i=>exact fun _=>.nil i
  | term s l i j h0 hf h ih =>
    intro hk
    have:=h.le
    obtain ⟨c,hc,h2⟩:=hf
    exact .term s l i j h0 ⟨c,by rw[List.getElem?_take,if_pos (by omega)]; exact hc,h2⟩ (ih hk)
  | dF s l R i m j h0 hR hl h1 h2 ih1 ih2 =>
    intro hk
    have:=h2.le
    exact .dF s l R i m j h0 hR hl (ih1 (by omega)) (ih2 hk)
def Grow (a:Nat) (S S':Nat→List Item):Prop:=∀ b,S b <+: S' b∧(b < a→S' b=S b)
structure Good (g:ao) (p:List Int) (S:Nat→List Item):Prop where
  nodup:∀ a,(S a).Nodup
  sound:∀ a x,x∈S a→Sound g p a x
  top:∀ a x,x∈S a→Hu g p x
  out:∀ a,p.length < a→S a=[]
theorem Grow.refl (a:Nat) (S:Nat→List Item):Grow a S S:=fun _=>⟨List.prefix_refl _,fun _=>rfl⟩
theorem Grow.trans {a:Nat} {S S' S'':Nat→List Item} (h:Grow a S S') (h':Grow a S' S''):Grow a S S'':=fun b=>⟨(h b).1.trans (h' b).1,fun hb=>((h' b).2 hb).trans ((h b).2 hb)⟩
theorem Grow.mem {a b:Nat} {S S':Nat→List Item} (h:Grow a S S') {x:Item} (hx:x∈S b):x∈S' b:=(h b).1.subset hx
theorem Good.put {g:ao} {p:List Int} {S:Nat→List Item} (h:Good g p S) {a:Nat} {x:Item} (hx:Sound g p a x) (ht:Hu g p x) (ha:a≤p.length):Good g p (uM S a x):=by
  refine ⟨fun b=>?_,fun b y hy=>?_,fun b y hy=>?_,fun b hb=>?_⟩
  · unfold uM
    split
    · rename_i e
      subst e
      split
      · exact h.nodup _
      · rename_i hn
        rw[List.nodup_append]
        refine ⟨h.nodup _,by simp,fun u hu v hv=>?_⟩
        simp at hv
        rintro rfl
        exact hn (hv ▸ hu)
    · exact h.nodup _
  · unfold uM at hy
    split at hy
    · rename_i e
      subst e
      split at hy
      · exact h.sound _ _ hy
      · rcases List.mem_append.1 hy with hy | hy
        · exact h.sound _ _ hy
        · simp at hy; subst hy; exact hx
    · exact h.sound _ _ hy
  · unfold uM at hy
    split at hy
    · rename_i e
      subst e
      split at hy
      · exact h.top _ _ hy
      · rcases List.mem_append.1 hy with hy | hy
        · exact h.top _ _ hy
        · simp at hy; subst hy; exact ht
    · exact h.top _ _ hy
  · unfold uM
    rw[if_neg (by omega)]
    exact h.out b hb
theorem qV:∀ (N:Nat) (l:List Nat),l.Nodup→(∀ x∈l,x < N)→l.length≤N
  | 0,l,_,h=>by
    cases l with
    | nil=>simp
    | cons x l=>exact absurd (h x (by simp)) (by omega)
  | N+1,l,hd,h=>by
    by_cases e:N∈l
    · have h1:=qV N (l.erase N) (hd.erase N) fun x hx=>by
        have h2:=(hd.mem_erase_iff).1 hx
        have:=h x h2.2
        have:=h2.1
        omega
      rw[List.length_erase_of_mem e] at h1
      omega
    · have:=qV N l hd fun x hx=>by
        have:=h x hx
        have:x≠N:=by rintro rfl; exact e hx
        omega
      omega
theorem Bt {α:Type} {f:α→Nat} : ∀ {l:List α},l.Nodup→(∀ x∈l,∀ y∈l,f x=f y→x=y)→(l.map f).Nodup
  | [],_,_=>by simp
  | x :: l,hd,h=>by
    rw[List.nodup_cons] at hd
    rw[List.map_cons,List.nodup_cons]
    refine ⟨fun hm=>?_,Bt hd.2 fun a ha b hb=>h a (by simp[ha]) b (by simp[hb])⟩
    obtain ⟨y,hy,e⟩:=List.mem_map.1 hm
    have:=h y (by simp[hy]) x (by simp) e
    exact hd.1 (this ▸ hy)
theorem Sound.small {g:ao} (hf:g.fA) {p:List Int} {a:Nat} {x:Item} (h:Sound g p a x):x.aF < 40∧x.dot < 7∧x.kq≤a:=by
  obtain ⟨R,hR,hd,hfr,_⟩:=h
  have h1:=(List.getElem?_eq_some_iff.1 hR).1
  have h2:=hf.rules
  have h3:=hf.right R (List.mem_of_getElem? hR)
  omega
theorem Good.len {g:ao} (hf:g.fA) {p:List Int} (hp:p.length≤60) {S:Nat→List Item} (h:Good g p S) (a:Nat):(S a).length≤17080:=by
  by_cases ha:p.length < a
  · rw[h.out a ha]; simp
  · have hb:∀ x∈S a,x.aF < 40∧x.dot < 7∧x.kq < 61:=fun x hx=>by
      have:=(h.sound a x hx).small hf
      omega
    have:=qV 17080 ((S a).map fun x=>x.aF * 427+x.dot * 61+x.kq) (Bt (h.nodup a) fun x hx y hy e=>by
      have h1:=hb x hx
      have h2:=hb y hy
      cases x; cases y
      simp only at e h1 h2
      simp only[Item.mk.injEq]
      omega) (fun v hv=>by
      obtain ⟨x,hx,rfl⟩:=List.mem_map.1 hv
      have:=hb x hx
      omega)
    simpa using this
theorem Ch.box {H:View} {c:Nat} {g:ao} {p:List Int} {nu:V} {S:Nat→List Item} {B n:Nat} {K:List (Nat × bM)} (h:Ch H c g p nu S B n K) :
    ∃ sid mid,H c=.arr 8 [[.aP (g.aA.map cU),encS g.aC,.aP (g.rules.map bo),gi g.start,encI p,nu,.sl sid 0 n 1,.sl mid 0 n 1]]:=by
  obtain ⟨sid,mid,sv,mi,mm,cl,h⟩:=h
  exact ⟨sid,mid,h.box⟩
theorem Ch.set {H:View} {c:Nat} {g:ao} {p:List Int} {nu:V} {S:Nat→List Item} {B n:Nat} {K:List (Nat × bM)} (h:Ch H c g p nu S B n K) {a:Nat} (ha:a < n) :
    ∃ (sid mid:Nat) (sv:Nat→V),H c=.arr 8 [[.aP (g.aA.map cU),encS g.aC,.aP (g.rules.map bo),gi g.start,encI p,nu,.sl sid 0 n 1,.sl mid 0 n 1]]∧H sid=.arr 1 ((List.range n).map fun j=>[sv j])∧aO H (sv a) 3 ((S a).map sY):=by
  obtain ⟨sid,mid,sv,mi,mm,cl,h⟩:=h
  exact ⟨sid,mid,sv,h.box,h.jf,h.set a ha⟩
def Ov (g:ao) (dF:Int) (S:Nat→List Item) (at_:Nat) (x:Item):Prop:=∀ R,g.rules[x.aF]?=some R→R.right[x.dot]?=some (-1 - dF)→(⟨x.aF,x.dot+1,x.kq⟩:Item)∈S at_
theorem Sound.on {g:ao} {p:List Int} {f a:Nat} {x:Item} (h:Sound g p f x) {R:aN} (hR:g.rules[x.aF]?=some R) {s:Int} (hs:R.right[x.dot]?=some s) (hsp:Sp g p [s] f a):Sound g p a ⟨x.aF,x.dot+1,x.kq⟩:=by
  obtain ⟨R',hR',h1,h2,h3⟩:=h
  rw[hR] at hR'; simp at hR'; subst hR'
  have hlt:=(List.getElem?_eq_some_iff.1 hs).1
  refine ⟨R,hR,hlt,Nat.le_trans h2 hsp.le,?_⟩
  have:R.right.take (x.dot+1)=R.right.take x.dot ++ [s]:=by rw[List.take_add_one,hs]; rfl
  rw[this]
  exact h3.app hsp
structure KR (g:ao) (p:List Int) (S:Nat→List Item) (a:Nat) (x:Item):Prop where
  term:∀ R s,g.rules[x.aF]?=some R→R.right[x.dot]?=some s→0≤s→np p a s→(⟨x.aF,x.dot+1,x.kq⟩:Item)∈S (a+1)
  pred:∀ R s i R',g.rules[x.aF]?=some R→R.right[x.dot]?=some s→s < 0→g.rules[i]?=some R'→R'.left = -1 - s→(⟨i,0,a⟩:Item)∈S a
  null:∀ R s,g.rules[x.aF]?=some R→R.right[x.dot]?=some s→s < 0→(aM g false).getD (-1 - s).toNat false=true→(⟨x.aF,x.dot+1,x.kq⟩:Item)∈S a
  comp:∀ R,g.rules[x.aF]?=some R→x.dot=R.right.length→x.kq < a→∀ y∈S x.kq,Ov g R.left S a y
theorem KR.grow {g:ao} {p:List Int} {S S':Nat→List Item} {a:Nat} {x:Item} (h:KR g p S a x) (hg:Grow a S S'):KR g p S' a x where
  term:=fun R s h1 h2 h3 h4=>hg.mem (h.term R s h1 h2 h3 h4)
  pred:=fun R s i R' h1 h2 h3 h4 h5=>hg.mem (h.pred R s i R' h1 h2 h3 h4 h5)
  null:=fun R s h1 h2 h3 h4=>hg.mem (h.null R s h1 h2 h3 h4)
  comp:=fun R h1 h2 h3 y hy R' h4 h5=>hg.mem (h.comp R h1 h2 h3 y (by rw[(hg x.kq).2 h3] at hy; exact hy) R' h4 h5)
structure sr (H:View) (c sid:Nat) (u:V) (mi:Nat→Nat) (g:ao) (p:List Int) (nu:V) (n k:Nat):Prop where
  box:H c=.arr 8 [[.aP (g.aA.map cU),encS g.aC,.aP (g.rules.map bo),gi g.start,encI p,nu,.sl sid 0 n 1,u]]
  jf:H sid=.arr 1 ((List.range n).map fun _=>[.emp 1])
  seen:aO H u 1 ((List.range k).map fun j=>[.mp (mi j)])
  map:∀ j,j < k→H (mi j)=.map [] 0
  inj:∀ i j,i < k→j < k→mi i=mi j→i=j
theorem sr.MS {H:View} {c sid:Nat} {u:V} {mi:Nat→Nat} {g:ao} {p:List Int} {nu:V} {n k:Nat} (h:sr H c sid u mi g p nu n k) (hn:0 < n):owner u≠some sid:=fun e=>by
  have h1:=(h.seen.live e).1
  rw[h.jf] at h1
  simp only[bM.arr.injEq,true_and] at h1
  have h2:=congrArg (·[0]?) h1
  simp[hn] at h2
  by_cases hk:0 < k
  · simp[hk] at h2
  · have:k=0:=by omega
    subst this
    simp at h2
theorem sr.Of {H:View} {c sid:Nat} {u:V} {mi:Nat→Nat} {g:ao} {p:List Int} {nu:V} {n k:Nat} (h:sr H c sid u mi g p nu n k):owner u≠some c:=fun e=>by
  have h1:=(h.seen.live e).1
  rw[h.box] at h1
  simp at h1
theorem sr.O6 {H:View} {c sid:Nat} {u:V} {mi:Nat→Nat} {g:ao} {p:List Int} {nu:V} {n:Nat} (h:sr H c sid u mi g p nu n n) (hn:0 < n):Ch H c g p nu (fun _=>[]) 0 n []:=by
  obtain ⟨mid,hu,hm⟩:=h.seen.sl (by simp; omega)
  have hoff:=h.MS hn
  refine ⟨sid,mid,fun _=>.emp 1,mi,fun _=>[],fun _=>0,?_,h.jf,hm,fun j hj=>aO.nil,fun j hj=>⟨h.map j hj,?_,fun x=>⟨fun hx=>by simp at hx,fun _=>rfl⟩⟩,?_,fun i j o _ _ h1=>by simp[owner] at h1,fun i j hi hj e=>h.inj i j hi hj e,fun q hq=>by simp at hq⟩
  · have:=h.box
    rw[hu] at this
    simpa using this
  · exact ⟨by simp,fun x hx=>by simp at hx⟩
  · rintro rfl
    rw[hu] at hoff
    exact hoff rfl
theorem sr.next {H H2:View} {c sid m:Nat} {u u':V} {mi:Nat→Nat} {g:ao} {p:List Int} {nu:V} {n k:Nat} (h:sr H c sid u mi g p nu n k) (hn:0 < n) (hm:H m=.dead) (ho:aO H2 u' 1 (((List.range k).map fun j=>[.mp (mi j)]) ++ [[.mp m]])) (hm2:H2 m=.map [] 0)
    (hl:∀ id,H id≠.dead→owner u≠some id→H2 id=H id∧owner u'≠some id) :
    sr (H2.set c (.arr 8 [[.aP (g.aA.map cU),encS g.aC,.aP (g.rules.map bo),gi g.start,encI p,nu,.sl sid 0 n 1,u']])) c sid u' (fun j=>if j=k then m else mi j) g p nu n (k+1):=by
  have hC:=hl c (by rw[h.box]; simp) h.Of
  have hS:=hl sid (by rw[h.jf]; simp) (h.MS hn)
  have hcs:sid≠c:=by rintro rfl; have:=h.box; rw[h.jf] at this; simp at this
  have hmn:∀ j,j < k→mi j≠m:=fun j hj e=>by have:=h.map j hj; rw[e,hm] at this; simp at this
  refine ⟨by simp[View.set],?_,?_,fun j hj=>?_,fun i j hi hj e=>?_⟩
  · simp only[View.set,if_neg hcs]
    rw[hS.1]; exact h.jf
  · refine aO.other ?_ hC.2
    have:(List.range (k+1)).map (fun j=>[V.mp (if j=k then m else mi j)])=(List.range k).map (fun j=>[V.mp (mi j)]) ++ [[.mp m]]:=by
      rw[List.range_succ,List.map_append,List.map_cons,List.map_nil,if_pos rfl]
      congr 1
      apply List.map_congr_left
      intro j hj
      rw[if_neg (by have:=List.mem_range.1 hj; omega)]
    rw[this]; exact ho
  · by_cases e:j=k
    · simp only[if_pos e]
      have:m≠c:=by rintro rfl; rw[h.box] at hm; simp at hm
      simp only[View.set,if_neg this]
      exact hm2
    · simp only[if_neg e]
      have h1:=h.map j (by omega)
      have:mi j≠c:=by intro e2; rw[e2,h.box] at h1; simp at h1
      simp only[View.set,if_neg this]
      rw[(hl (mi j) (by rw[h1]; simp) (fun e2=>by have:=(h.seen.live e2).1; rw[h1] at this; simp at this)).1]
      exact h1
  · by_cases e1:i=k
    · by_cases e2:j=k
      · omega
      · simp only[if_pos e1,if_neg e2] at e
        exact absurd e.symm (hmn j (by omega))
    · by_cases e2:j=k
      · simp only[if_neg e1,if_pos e2] at e
        exact absurd e (hmn i (by omega))
      · simp only[if_neg e1,if_neg e2] at e
        exact h.inj i j (by omega) (by omega) e
def Kept (H H':View):Prop:=∀ id,H id≠.dead→H' id=H id
theorem Kept.refl (H:View):Kept H H:=fun _ _=>rfl
theorem Kept.trans {H H' H'':View} (h:Kept H H') (h':Kept H' H''):Kept H H'':=fun id hid=>by
  have h1:=h id hid
  rw[← h1] at hid
  rw[h' id hid,h1]
theorem Kept.new {H:View} {b:Nat} {o:bM} (hb:H b=.dead):Kept H (H.set b o):=fun id hid=>by
  have:id≠b:=by rintro rfl; exact hid hb
  simp[View.set,this]
def KO (H:View) (c:Nat) (g:ao) (p:List Int):Prop:=∃ nu sid mid n,H c=.arr 8 [[.aP (g.aA.map cU),encS g.aC,.aP (g.rules.map bo),gi g.start,encI p,nu,.sl sid 0 n 1,.sl mid 0 n 1]]
theorem KO.keep {H H':View} {c:Nat} {g:ao} {p:List Int} (h:KO H c g p) (hs:Kept H H'):KO H' c g p:=by
  obtain ⟨nu,sid,mid,n,h⟩:=h
  exact ⟨nu,sid,mid,n,by rw[hs c (by rw[h]; simp)]; exact h⟩
abbrev Pt:=List (List Bool)
def DT (P:Pt) (N M:Nat):Prop:=P.length=N∧∀ r∈P,r.length=M
def NL (P:Pt):V:=.aP (P.map fun c=>[df c])
theorem DT.row {P:Pt} {N M n:Nat} (h:DT P N M) (hn:n < N):∃ r,P[n]?=some r∧r.length=M∧P.getD n []=r:=by
  have hl:n < P.length:=by rw[h.1]; exact hn
  exact ⟨P[n],List.getElem?_eq_getElem hl,h.2 _ (List.getElem_mem hl),by simp[List.getD_eq_getElem?_getD,hl]⟩
structure lE (H:View) (I N M:Nat) (R:Nat→Nat) (P:Pt):Prop where
  top:H I=.arr 1 ((List.range N).map fun n=>[.sl (R n) 0 M 1])
  row:∀ n,n < N→H (R n)=.arr 1 (cQ (P.getD n []))
  inj:∀ n n',n < N→n' < N→R n=R n'→n=n'
structure Eg (H:View) (I N M k:Nat) (R:Nat→Nat):Prop where
  top:H I=.arr 1 ((List.range N).map fun n=>[if n < k then .sl (R n) 0 M 1 else .emp 1])
  row:∀ n,n < k→H (R n)=.arr 1 (List.replicate M [gb false])
  inj:∀ n n',n < k→n' < k→R n=R n'→n=n'
def MY (N M:Nat):Pt:=List.replicate N (List.replicate M false)
def G4 (P:Pt) (n i:Nat):Pt:=P.set n ((P.getD n []).set i true)
theorem lE.Om {H:View} {I N M:Nat} {R:Nat→Nat} {P:Pt} (h:lE H I N M R P) (hP:DT P N M) (hM:0 < M) {n:Nat} (hn:n < N):I≠R n:=fun e=>by
  have h1:=h.row n hn
  obtain ⟨r,_,h2,h3⟩:=hP.row hn
  rw[← e,h.top,h3] at h1
  simp only[bM.arr.injEq,true_and] at h1
  exact xK (by omega) h1.symm fun _ _=>by simp
theorem lE.keep {H H':View} {I N M:Nat} {R:Nat→Nat} {P:Pt} (h:lE H I N M R P) (hk:∀ id,H id≠.dead→H' id=H id):lE H' I N M R P :=
  ⟨by rw[hk _ (by rw[h.top]; simp)]; exact h.top,fun n hn=>by rw[hk _ (by rw[h.row n hn]; simp)]; exact h.row n hn,h.inj⟩
theorem lE.put {H:View} {I N M:Nat} {R:Nat→Nat} {P:Pt} (h:lE H I N M R P) (hP:DT P N M) {n i:Nat} (hn:n < N) (hi:i < M) :
    lE (H.set (R n) (.arr 1 (cQ ((P.getD n []).set i true)))) I N M R (G4 P n i):=by
  have hI:=h.Om hP (by omega) hn
  have hnl:n < P.length:=by rw[hP.1]; exact hn
  refine ⟨by simp only[View.set,if_neg hI]; exact h.top,fun m hm=>?_,h.inj⟩
  by_cases e:R m=R n
  · have:=h.inj m n hm hn e
    subst this
    simp only[View.set,if_true]
    congr 2
    simp[G4,List.getD_eq_getElem?_getD,hnl]
  · simp only[View.set,if_neg e]
    rw[h.row m hm]
    congr 2
    have:n≠m:=fun e2=>e (by rw[e2])
    simp[G4,List.getD_eq_getElem?_getD,List.getElem?_set,this]
theorem lE.GW {H:View} {I N M:Nat} {R:Nat→Nat} {P:Pt} (hG:lE H I N M R P) (hP:DT P N M):dQ H (.sl I 0 N 1) (NL P):=by
  rintro h rfl
  refine dJ.MT ?_
  refine .sl I 0 N 1 1 _ _ hG.top (by simp) (by simp[hP.1]) (fun n hn=>?_) (fun n j hn hj=>?_)
  · obtain ⟨r,hr,_⟩:=hP.row hn
    simp[List.getD_eq_getElem?_getD,hr,hn]
  · obtain ⟨r,hr,hrl,hrg⟩:=hP.row hn
    have e1:((P.map fun c=>[df c]).getD n [])=[df r]:=by simp[List.getD_eq_getElem?_getD,hr]
    have e2:(((List.range N).map fun n=>[V.sl (R n) 0 M 1]).getD (0+n) [])=[V.sl (R n) 0 M 1]:=by simp[List.getD_eq_getElem?_getD,hn]
    rw[e1] at hj ⊢
    rw[e2]
    have:j=0:=by simp at hj; omega
    subst this
    simp only[List.getD_cons_zero]
    have hro:=hG.row n hn
    rw[hrg] at hro
    have:=ui (h:=h) (id:=R n) (is:=r) hro
    rwa [hrl] at this
theorem Eg.done {H:View} {I N M:Nat} {R:Nat→Nat} (h:Eg H I N M N R):lE H I N M R (MY N M):=by
  refine ⟨?_,fun n hn=>?_,h.inj⟩
  · rw[h.top]
    congr 1
    apply List.map_congr_left
    intro n hn
    rw[if_pos (by simpa using hn)]
  · rw[h.row n hn]
    simp[MY,List.getD_eq_getElem?_getD,hn]
theorem Eg.next {H:View} {I N M k:Nat} {R:Nat→Nat} {r:Nat} (h:Eg H I N M k R) (hk:k < N) (hr:H r=.dead) :
    Eg ((H.set r (.arr 1 (List.replicate M [gb false]))).set I (.arr 1 ((List.range N).map fun n=>[if n < k+1 then .sl (if n=k then r else R n) 0 M 1 else .emp 1]))) I N M (k+1) (fun n=>if n=k then r else R n):=by
  have hI:r≠I:=by rintro rfl; rw[h.top] at hr; simp at hr
  have hRI:∀ n,n < k→R n≠I:=fun n hn e=>by
    have h1:=h.row n hn
    rw[e,h.top] at h1
    simp only[bM.arr.injEq,true_and] at h1
    have h2:=congrArg (·[0]?) h1
    simp only[List.getElem?_map,List.getElem?_range (show 0 < N by omega),List.getElem?_replicate] at h2
    split at h2 <;> simp at h2
    split at h2 <;> simp at h2
  have hRr:∀ n,n < k→R n≠r:=fun n hn e=>by have:=h.row n hn; rw[e,hr] at this; simp at this
  refine ⟨by simp[View.set],fun n hn=>?_,fun n n' hn hn' e=>?_⟩
  · by_cases e:n=k
    · simp only[if_pos e,View.set,if_neg hI,if_true]
    · simp only[if_neg e,View.set,if_neg (hRI n (by omega)),if_neg (hRr n (by omega))]
      exact h.row n (by omega)
  · by_cases e1:n=k
    · by_cases e2:n'=k
      · omega
      · simp only[if_pos e1,if_neg e2] at e
        exact absurd e.symm (hRr n' (by omega))
    · by_cases e2:n'=k
      · simp only[if_neg e1,if_pos e2] at e
        exact absurd e (hRr n (by omega))
      · simp only[if_neg e1,if_neg e2] at e
        exact h.inj n n' (by omega) (by omega) e
def LA:List Int:=[37,37,32,115,32,58,32,39,97,39,32,115,32,124,32,59]
def mK:ao:=⟨[⟨⟨#[39,97,39]⟩,0,0⟩],[⟨#[115]⟩],[⟨0,[0,(-1)],0⟩,⟨0,[],(-1)⟩],0⟩
def Lu:ao:=⟨[⟨⟨#[39,97,39]⟩,0,0⟩,⟨⟨#[39,98,39]⟩,0,0⟩],[⟨#[115]⟩,⟨#[110]⟩],[⟨0,[(-1),(-1)],(-1)⟩,⟨0,[(-2),0,(-2),1],1⟩,⟨0,[],(-1)⟩,⟨1,[(-2)],(-1)⟩,⟨1,[],(-1)⟩],0⟩
theorem NR:dR Tryz.prog 49 [Cj LA] (vT mK):=LX (by kernel_rfl)
section
variable {g:ao} {p:List Int} {T:Tb} {N:Nat}
end
theorem n6 (p:List Int) (i:Nat):Sp Lu p [-2] i i:=.dF (-2) [] ⟨1,[],-1⟩ i i i (by decide) (by simp[Lu]) (by decide) (.nil i) (.nil i)
theorem My {g:ao} (hr:bt g=true) {p l:List Int} {i j:Nat} (h:Sp g p l i j):fB l (aM g true) true=true:=by
  induction h with
  | nil=>rfl
  | term s l i j h0 _ _ ih =>
    simp only[fB,List.all_cons,Bool.and_eq_true] at ih ⊢
    rw[if_pos h0]
    exact ⟨rfl,ih⟩
  | dF s l R i k j h0 hR hl _ _ ih1 ih2 =>
    have g1:=pD hr hR ih1
    rw[hl] at g1
    simp only[fB,List.all_cons,Bool.and_eq_true] at ih2 ⊢
    rw[if_neg (by omega)]
    exact ⟨g1,ih2⟩
section
variable {g r:ao} {p q:List Bool} {o:List Int}
theorem dP.sp (h:dP g p q o r) {w l:List Int} {i j:Nat} (hs:Sp g w l i j):(∀ s∈l,s < 0→-1 - s∈o)→Sp r w (l.map fun s=>if s < 0 then -1 - bK o (-1 - s) else s) i j:=by
  induction hs with
  | nil=>exact fun _=>.nil _
  | term s l i j h0 hf _ ih =>
    intro hl
    rw[List.map_cons,if_neg (by omega)]
    exact .term s _ i j h0 hf (ih fun s hs=>hl s (by simp[hs]))
  | dF s l R i k j h0 hR hle h1 _ ih1 ih2 =>
    intro hl
    have hso:=hl s (by simp) h0
    obtain ⟨R1,hR1,hk1,e1⟩:=h.from_ _ hso
    have hk:bI p q R=true:=by
      rw[bI,Bool.and_eq_true] at hk1 ⊢
      refine ⟨by rw[hle,← e1]; exact hk1.1,?_⟩
      rw[h.pe]
      exact My h.right h1
    have hin:=(h.kept R hR hk).2
    have hm:bA (bK o) R∈r.rules:=by rw[h.rules]; exact List.mem_map.2 ⟨R,List.mem_filter.2 ⟨hR,hk⟩,rfl⟩
    have hb:=jk hso
    rw[List.map_cons,if_pos h0]
    exact .dF _ _ (bA (bK o) R) i k j (by omega) hm (by simp only[bA]; rw[hle]; omega) (ih1 hin) (ih2 fun s hs=>hl s (by simp[hs]))
end
theorem IC {g:ao} {p:List Int} {k:Nat} (hk:k≤p.length) {l:List Int} {i j:Nat} (h:Sp g p l i j):i≤k→k≤j →
    (∃ l1 l2,l=l1 ++ l2∧Sp g (p.take k) l1 i k)∨(∃ l1 s l2 a,l=l1 ++ s :: l2∧s < 0∧Sp g (p.take k) l1 i a∧a < k∧CM g (p.take k) (-1 - s) a):=by
  induction h with
  | nil i =>
    intro h1 h2
    have:i=k:=by omega
    subst this
    exact .inl ⟨[],[],rfl,.nil _⟩
  | term s l i j h0 hf hs ih =>
    intro h1 h2
    by_cases e:i=k
    · subst e; exact .inl ⟨[],s :: l,rfl,.nil _⟩
    · have hf':np (p.take k) i s:=by
        obtain ⟨c,hc,h3⟩:=hf
        exact ⟨c,by rw[List.getElem?_take,if_pos (by omega)]; exact hc,h3⟩
      rcases ih (by omega) h2 with ⟨l1,l2,e2,h3⟩ | ⟨l1,s',l2,a,e2,h3,h4,h5,h6⟩
      · exact .inl ⟨s :: l1,l2,by rw[e2]; rfl,.term s l1 i k h0 hf' h3⟩
      · exact .inr ⟨s :: l1,s',l2,a,by rw[e2]; rfl,h3,.term s l1 i a h0 hf' h4,h5,h6⟩
  | dF s l R i m j h0 hR hl hs1 hs2 ih1 ih2 =>
    intro h1 h2
    by_cases e:i=k
    · subst e; exact .inl ⟨[],s :: l,rfl,.nil _⟩
    · by_cases hm:m≤k
      · have c1:=hs1.cut (k:=k) hm
        rcases ih2 hm h2 with ⟨l1,l2,e2,h3⟩ | ⟨l1,s',l2,a,e2,h3,h4,h5,h6⟩
        · exact .inl ⟨s :: l1,l2,by rw[e2]; rfl,.dF s l1 R i m k h0 hR hl c1 h3⟩
        · exact .inr ⟨s :: l1,s',l2,a,by rw[e2]; rfl,h3,.dF s l1 R i m a h0 hR hl c1 h4,h5,h6⟩
      · have hlen:(p.take k).length=k:=by simp; omega
        refine .inr ⟨[],s,l,i,rfl,h0,.nil _,by omega,?_⟩
        rw[← hl]
        rcases ih1 h1 (by omega) with ⟨l1,l2,e2,h3⟩ | ⟨l1,s',l2,a,e2,h3,h4,h5,h6⟩
        · exact .full R l1 l2 i hR e2 (by rw[hlen]; exact h3)
        · exact .deep R l1 l2 s' i a hR e2 h3 h4 (by rw[hlen]; exact h5) h6
theorem CM.cut {g:ao} {p:List Int} {k:Nat} (hk:k≤p.length) {n:Int} {f:Nat} (h:CM g p n f):f≤k→CM g (p.take k) n f:=by
  have hlen:(p.take k).length=k:=by simp; omega
  induction h with
  | full R l1 l2 f hR e hs =>
    intro hf
    rcases IC hk hs hf hk with ⟨a1,a2,e2,h3⟩ | ⟨a1,s',a2,a,e2,h3,h4,h5,h6⟩
    · exact .full R a1 (a2 ++ l2) f hR (by rw[e,e2]; simp) (by rw[hlen]; exact h3)
    · exact .deep R a1 (a2 ++ l2) s' f a hR (by rw[e,e2]; simp) h3 h4 (by rw[hlen]; exact h5) h6
  | deep R l1 l2 s f a hR e h0 h1 h2 _ ih =>
    intro hf
    by_cases ha:a < k
    · exact .deep R l1 l2 s f a hR e h0 (h1.cut (by omega)) (by rw[hlen]; exact ha) (ih (by omega))
    · rcases IC hk h1 hf (by omega) with ⟨a1,a2,e2,h3⟩ | ⟨a1,s',a2,b,e2,h3,h4,h5,h6⟩
      · exact .full R a1 (a2 ++ s :: l2) f hR (by rw[e,e2]; simp) (by rw[hlen]; exact h3)
      · exact .deep R a1 (a2 ++ s :: l2) s' f b hR (by rw[e,e2]; simp) h3 h4 (by rw[hlen]; exact h5) h6
theorem Sp.wide {g:ao} {p p':List Int} (hp:∀ i s,np p i s→np p' i s) {l:List Int} {i j:Nat} (h:Sp g p l i j):Sp g p' l i j:=by
  induction h with
  | nil i=>exact .nil i
  | term s l i j h0 hf _ ih=>exact .term s l i j h0 (hp _ _ hf) ih
  | dF s l R i k j h0 hR hl _ _ ih1 ih2=>exact .dF s l R i k j h0 hR hl ih1 ih2
section
variable {fit:List Int→Bool} {T b:Nat}
end
def NN (l:List (List Int)):V:=.aP (l.map fun w=>[encI w])
abbrev LD:=List (V × List Int)
def mA (b:LD):List (List V):=b.map fun x=>[x.1]
def jQ (H:View) (u:V) (out:List (List Int)):Prop:=∃ b:LD,b.map (·.2)=out∧aO H u 1 (mA b)∧∀ x∈b,aO H x.1 1 (du x.2)
theorem jQ.nil {H:View} {k:Nat} : jQ H (.emp k) []:=⟨[],rfl,.nil,by simp⟩
theorem jQ.len {H:View} {u:V} {out:List (List Int)} (h:jQ H u out):cF u=some out.length:=by
  obtain ⟨b,rfl,ho,_⟩:=h
  rw[ho.len]; simp[mA]
theorem jQ.cells {H:View} {u:V} {out:List (List Int)} (h:jQ H u out):V.cells u=[u]∧aU u=true:=by
  obtain ⟨b,_,ho,_⟩:=h
  exact ⟨ho.cells,ho.A8⟩
theorem L4 {H:View} {u:V} {b:LD} (ho:aO H u 1 (mA b)) (hb:∀ x∈b,aO H x.1 1 (du x.2)) {x:V × List Int} (hx:x∈b) {id:Nat} (hid:owner x.1=some id):owner u≠some id:=by
  intro e
  have h1:=(ho.live e).1
  have h2:=((hb x hx).live hid).1
  rw[h2] at h1
  simp only[bM.arr.injEq,true_and] at h1
  cases b with
  | nil=>simp at hx
  | cons y r =>
    have h3:=hb y (by simp)
    cases hw:x.2 with
    | nil=>rw[hw] at h1; simp[mA] at h1
    | cons c w =>
      rw[hw] at h1
      simp only[mA,List.map_cons,List.cons.injEq] at h1
      rcases h3 with ⟨_,k,e2⟩ | ⟨n,e2,_⟩
      · rw[e2] at h1; simp at h1
      · rw[e2] at h1; simp at h1
theorem jQ.keep {H H':View} {u:V} {out:List (List Int)} (h:jQ H u out) (hk:∀ id,H id≠.dead→H' id=H id):jQ H' u out:=by
  obtain ⟨b,e,ho,hb⟩:=h
  exact ⟨b,e,ho.keep fun id hid=>hk id (by rw[(ho.live hid).1]; simp),fun x hx=>(hb x hx).keep fun id hid=>hk id (by rw[((hb x hx).live hid).1]; simp)⟩
theorem jQ.add {H H':View} {u u' v:V} {b:LD} {w:List Int} (ho:aO H u 1 (mA b)) (hb:∀ x∈b,aO H x.1 1 (du x.2)) (hv:aO H v 1 (du w)) (hd:∀ id,owner v=some id→owner u≠some id)
    (h1:aO H' u' 1 (mA b ++ [[v]])) (h2:Left H H' u u'):jQ H' u' (b.map (·.2) ++ [w]):=by
  refine ⟨b ++ [(v,w)],by simp,by simpa [mA] using h1,fun x hx=>?_⟩
  rcases List.mem_append.1 hx with hx | hx
  · exact (hb x hx).left h2 fun id hid=>L4 ho hb hx hid
  · simp at hx; subst hx
    exact hv.left h2 hd
theorem jQ.NW {h:aD} {u:V} {out:List (List Int)} (ho:jQ h.view u out):dJ h u (NN out):=by
  obtain ⟨b,rfl,ho,hb⟩:=ho
  have hg:∀ i (hi:i < b.length),(mA b).getD i []=[(b[i]).1]∧(((b.map (·.2)).map fun w=>[encI w]).getD i [])=[encI (b[i]).2]:=fun i hi=>by
    simp[mA,List.getD_eq_getElem?_getD,hi]
  refine dJ.own ho (by simp[mA]) (fun i hi=>?_) (fun i j hi hj=>?_)
  · have hi':i < b.length:=by simpa [mA] using hi
    rw[(hg i hi').1,(hg i hi').2]; rfl
  · have hi':i < b.length:=by simpa [mA] using hi
    rw[(hg i hi').2] at hj ⊢
    rw[(hg i hi').1]
    have:j=0:=by simp at hj; omega
    subst this
    simp only[List.getD_cons_zero]
    exact dJ.Ky (hb _ (List.getElem_mem hi'))
def GK (H:View) (v:V) (p:List Int):Prop:=v=encI p∨(p≠[]∧∃ n,v=.sl n 0 p.length 1∧H n=.arr 1 (du p))
theorem GK.GW {H:View} {v:V} {p:List Int} (h:GK H v p):dQ H v (encI p):=by
  rcases h with rfl | ⟨_,n,rfl,hn⟩
  · exact .tree (jc p)
  · exact yi hn rfl
theorem GK.len {H:View} {v:V} {p:List Int} (h:GK H v p):cF v=some p.length:=by
  rcases h with rfl | ⟨_,n,rfl,hn⟩
  · simp[encI,cF]
  · rfl
def p8 (H H':View) (f:Nat) (u u':V):Prop:=∀ id,H id≠.dead→id≠f→owner u≠some id→H' id=H id∧owner u'≠some id
theorem p8.refl {H:View} {f:Nat} {u:V} : p8 H H f u u:=fun _ _ _ h=>⟨rfl,h⟩
theorem p8.trans {H H1 H2:View} {f:Nat} {u u1 u2:V} (h1:p8 H H1 f u u1) (h2:p8 H1 H2 f u1 u2):p8 H H2 f u u2:=fun id hd hf hu=>by
  obtain ⟨a,b⟩:=h1 id hd hf hu
  obtain ⟨c,d⟩:=h2 id (by rw[a]; exact hd) hf b
  exact ⟨c.trans a,d⟩
theorem p8.kept {H H':View} {f:Nat} {u:V} (h:∀ id,H id≠.dead→H' id=H id):p8 H H' f u u:=fun id hd _ hu=>⟨h id hd,hu⟩
theorem Fs {H:View} {u:V} {sz f z:Nat} {es:List (List V)} {e:List (List V)} (ho:aO H u sz es) (hf:H f=.arr z e) (hz:sz≠z):owner u≠some f:=fun e2=>by
  have:=(ho.live e2).1
  rw[hf] at this
  simp only[bM.arr.injEq] at this
  exact hz this.1.symm
theorem jQ.box {H:View} {u:V} {out:List (List Int)} {f:Nat} {e:List (List V)} {o:bM} (h:jQ H u out) (hf:H f=.arr 6 e):jQ (H.set f o) u out:=by
  obtain ⟨b,e1,ho,hb⟩:=h
  exact ⟨b,e1,ho.other (Fs ho hf (by decide)),fun x hx=>(hb x hx).other (Fs (hb x hx) hf (by decide))⟩
section
variable {P:Program} {T:Env} {H:View} {K:V→View→Prop} {w:cq (T,H,K)} {t t1 e ty:TypeId}
end
def xt (H:View) (u:V) (l:List Int):Prop:=u=encI l∨aO H u 1 (du l)
theorem xt.elems {H:View} {u:V} {l:List Int} (h:xt H u l):∃ rd,bG H u=some (du l,rd):=by
  rcases h with rfl | h
  · exact ⟨[],qU _ _⟩
  generalize du l=es0 at h
  rcases h with ⟨rfl,k,rfl⟩ | ⟨n,rfl,hn⟩
  · exact ⟨_,mW _ k⟩
  · cases es0 with
    | nil=>exact ⟨[],by simp[bG]⟩
    | cons e es =>
      exact ⟨_,by rw[show (e :: es).length=es.length+1 from rfl,lA _ n 0 es.length 1 1 _ hn (by simp),List.drop_zero,List.take_of_length_le (by simp)]⟩
theorem xt.len {H:View} {u:V} {l:List Int} (h:xt H u l):cF u=some l.length:=by
  rcases h with rfl | h
  · simp[encI,cF]
  · rw[h.len]; simp
theorem xt.keep {H H':View} {u:V} {l:List Int} (h:xt H u l) (hk:∀ id,H id≠.dead→H' id=H id):xt H' u l:=by
  rcases h with rfl | h
  · exact .inl rfl
  · exact .inr (h.keep fun id hid=>hk id (by rw[(h.live hid).1]; simp))
def LN (H:View) (u:V) (l:List Int):Prop:=aO H u 1 (du l)∨(l=[]∧∃ m es,u=.sl m 0 0 1∧H m=.arr 1 es)
theorem LN.live {H:View} {u:V} {l:List Int} (h:LN H u l) {id:Nat} (hid:owner u=some id):∃ es,H id=.arr 1 es:=by
  rcases h with h | ⟨_,m,es,rfl,hm⟩
  · exact ⟨_,(h.live hid).1⟩
  · simp[owner] at hid; subst hid; exact ⟨es,hm⟩
def Dk (H:View) (u:V) (l:List Int):Prop:=u=encI l∨∃ (m:Nat) (x:Int),l=[x]∧x < 0∧u=.sl m 0 1 1∧H m=.arr 1 [[gi x]]
theorem Dk.GW {H:View} {u:V} {l:List Int} (h:Dk H u l):dQ H u (encI l):=by
  rcases h with rfl | ⟨m,x,rfl,_,rfl,hm⟩
  · exact dQ.tree (jc l)
  · exact yi (l:=[x]) hm rfl
theorem Dk.keep {H H':View} {u:V} {l:List Int} (h:Dk H u l) (hk:∀ id,H id≠.dead→H' id=H id):Dk H' u l:=by
  rcases h with rfl | ⟨m,x,rfl,hx,rfl,hm⟩
  · exact .inl rfl
  · exact .inr ⟨m,x,rfl,hx,rfl,by rw[hk m (by rw[hm]; simp)]; exact hm⟩
theorem I2 {F:List Way} {w:Way} {n:Int} : lookW (F ++ [w]) n=match lookW F n with
    | some x=>some x
    | none=>if w.dF=n then some w else none:=by
  unfold lookW
  rw[List.find?_append]
  cases h:F.find? fun x=>x.dF == n with
  | some x=>rfl
  | none =>
    simp only[Option.none_or,List.find?_cons,List.find?_nil]
    by_cases e:w.dF=n
    · simp[e]
    · have:(w.dF == n)=false:=by simpa using e
      rw[this]; simp[e]
theorem AW {F:List Way} {n:Int} (h:n ∉ j7 F):lookW F n=none:=by
  rw[lookW,List.find?_eq_none]
  intro x hx e
  exact h (List.mem_map.2 ⟨x,hx,by simpa using e⟩)
theorem qa.le {g:ao} (hf:g.fA) {F:List Way} (h:qa g F):F.length≤g.aC.length :=
  h.len ⟨hf.lF,hf.start⟩ fun R hR s hs hn=>by
    have:=hf.sym R hR s hs
    unfold iB at this
    rw[if_neg (by omega)] at this
    simpa using this
def fy (H:View) (u:V) (l:List Int):Prop:=∃ (id off:Nat) (es:List (List V)),u=.sl id off l.length 1∧H id=.arr 1 es∧off+l.length≤es.length∧(es.drop off).take l.length=du l
theorem fy.len {H:View} {u:V} {l:List Int} (h:fy H u l):cF u=some l.length:=by
  obtain ⟨id,off,es,rfl,_⟩:=h; rfl
theorem fy.keep {H H':View} {u:V} {l:List Int} (h:fy H u l) (hk:∀ id es,H id=.arr 1 es→H' id=H id):fy H' u l:=by
  obtain ⟨id,off,es,h1,h2,h3,h4⟩:=h
  exact ⟨id,off,es,h1,by rw[hk id es h2]; exact h2,h3,h4⟩
theorem fy.fresh {H:View} {u:V} {l:List Int} (h:fy H u l) {n:Nat} {o:bM} (hn:H n=.dead):fy (H.set n o) u l :=
  h.keep fun id es hid=>by
    have:id≠n:=by rintro rfl; rw[hn] at hid; simp at hid
    simp[View.set,this]
theorem fy.DW {H:View} {u:V} {l:List Int} (h:fy H u l) {q c:Nat} {es:List (V × V × Nat)} {o:bM} (hq:H q=.map es c):fy (H.set q o) u l :=
  h.keep fun id es' hid=>by
    have:id≠q:=by rintro rfl; rw[hq] at hid; simp at hid
    simp[View.set,this]
theorem fy.own {H:View} {u:V} {l:List Int} (h:aO H u 1 (du l)) (hl:l≠[]):fy H u l:=by
  rcases h with ⟨e,_⟩ | ⟨n,rfl,hn⟩
  · rw[List.map_eq_nil_iff] at e; exact absurd e hl
  · exact ⟨n,0,_,by simp,hn,by simp,by rw[List.drop_zero,List.take_of_length_le (by simp)]⟩
theorem fy.at {H:View} {u:V} {x:Int} {l:List Int} (h:fy H u (x :: l)):∃ (id off:Nat) (es:List (List V)),u=.sl id off (l.length+1) 1∧H id=.arr 1 es∧off < es.length∧es.getD off []=[gi x]∧off+(l.length+1)≤es.length:=by
  obtain ⟨id,off,es,h1,h2,h3,h4⟩:=h
  simp only[List.length_cons] at h1 h3 h4
  refine ⟨id,off,es,h1,h2,by omega,?_,h3⟩
  have h5:=congrArg (fun z=>z[0]?) h4
  simp at h5
  have:es[off]?=some (es[off]'(by omega)):=List.getElem?_eq_getElem (by omega)
  rw[this] at h5
  simp at h5
  rw[List.getD_eq_getElem?_getD,this,h5]; rfl
theorem fy.next {H:View} {id off k:Nat} {x:Int} {l:List Int} (h:fy H (.sl id off k 1) (x :: l)):fy H (.sl id (off+1) (k - 1) 1) l:=by
  obtain ⟨id',off',es,h1,h2,h3,h4⟩:=h
  simp only[V.sl.injEq,and_true] at h1
  obtain ⟨rfl,rfl,rfl⟩:=h1
  simp only[List.length_cons] at h3 h4 ⊢
  refine ⟨id,off+1,es,by simp,h2,by omega,?_⟩
  have h5:=congrArg (List.drop 1) h4
  rw[List.drop_take,List.drop_drop] at h5
  simpa using h5
def Hb (H:View) (w:Option Way) (v:Option V):Prop:=match w with
  | none=>v=none
  | some w=>(w.aF = -1∧v=some (.val (.pointer none)))∨(0≤w.aF∧∃ p,v=some (.ptr p 0 0)∧H p=.arr 2 [[gi w.aF,gi w.place]])
def gp (H:View) (F:List Way) (m:cd Int):Prop:=∀ n,Hb H (lookW F n) (getM m n)
theorem Hb.keep {H H':View} {w:Option Way} {v:Option V} (h:Hb H w v) (hk:∀ id es,H id=.arr 2 es→H' id=H id):Hb H' w v:=by
  cases w with
  | none=>exact h
  | some w =>
    rcases h with h | ⟨h1,p,h2,h3⟩
    · exact .inl h
    · exact .inr ⟨h1,p,h2,by rw[hk p _ h3]; exact h3⟩
theorem gp.keep {H H':View} {F:List Way} {m:cd Int} (h:gp H F m) (hk:∀ id es,H id=.arr 2 es→H' id=H id):gp H' F m:=fun n=>(h n).keep hk
theorem gp.fresh {H:View} {F:List Way} {m:cd Int} (h:gp H F m) {n:Nat} {o:bM} (hn:H n=.dead):gp (H.set n o) F m :=
  h.keep fun id es hid=>by
    have:id≠n:=by rintro rfl; rw[hn] at hid; simp at hid
    simp[View.set,this]
theorem gp.DW {H:View} {F:List Way} {m:cd Int} (h:gp H F m) {q c:Nat} {es:List (V × V × Nat)} {o:bM} (hq:H q=.map es c):gp (H.set q o) F m :=
  h.keep fun id es' hid=>by
    have:id≠q:=by rintro rfl; rw[hq] at hid; simp at hid
    simp[View.set,this]
theorem Hk {H:View} {u:V} {l:List Int} (h:fy H u l) {id:Nat} (hid:owner u=some id):∃ es,H id=.arr 1 es:=by
  obtain ⟨i,off,es,rfl,h2,_⟩:=h
  simp[owner] at hid; subst hid
  exact ⟨es,h2⟩
theorem gp.left {H H':View} {F:List Way} {m:cd Int} (h:gp H F m) {u u':V} {l:List Int} (ht:fy H u l) (hl:Left H H' u u'):gp H' F m :=
  h.keep fun id es hid=>(hl id (by rw[hid]; simp) (fun e=>by obtain ⟨es',h2⟩:=Hk ht e; rw[hid] at h2; simp at h2)).1
theorem gp.put {H:View} {F:List Way} {m:cd Int} (h:gp H F m) {p c k j:Nat} {n:Int} (hn:n ∉ j7 F) (hp:H p=.arr 2 [[gi k,gi j]]):gp H (F ++ [⟨n,k,j⟩]) (cy n (.ptr p 0 0) c m):=by
  intro n'
  rw[I2,xh]
  by_cases e:n=n'
  · subst e
    rw[AW hn]
    simp only[if_true,beq_self_eq_true]
    exact .inr ⟨by simp only; omega,p,rfl,hp⟩
  · have e2:(n' == n)=false:=by simpa using Ne.symm e
    rw[e2]
    have h1:=h n'
    cases hl:lookW F n' with
    | some w=>rw[hl] at h1; simpa using h1
    | none =>
      rw[hl] at h1
      simp only
      rw[if_neg e]
      simpa using h1
theorem gp.has {H:View} {F:List Way} {m:cd Int} (h:gp H F m) (n:Int):(getM m n).isSome=decide (n∈j7 F):=by
  have h1:=h n
  by_cases e:n∈j7 F
  · obtain ⟨x,hx,_⟩:=Mw e
    rw[hx] at h1
    rcases h1 with ⟨_,h1⟩ | ⟨_,p,h1,_⟩ <;> rw[h1] <;> simp[e]
  · rw[AW e] at h1
    have h2:getM m n=none:=h1
    rw[h2]; simp[e]
theorem fy.all {H:View} {u:V} {l:List Int} (h:fy H u l):∃ (id off:Nat) (es:List (List V)),u=.sl id off l.length 1∧H id=.arr 1 es∧off+l.length≤es.length∧∀ j,j < l.length→es.getD (off+j) []=[gi (l.getD j 0)]:=by
  obtain ⟨id,off,es,h1,h2,h3,h4⟩:=h
  refine ⟨id,off,es,h1,h2,h3,fun j hj=>?_⟩
  have h5:=congrArg (fun z=>z[j]?) h4
  simp only[List.getElem?_take,hj,if_true,List.getElem?_drop,List.getElem?_map,List.getElem?_eq_getElem hj,Option.map_some] at h5
  rw[List.getD_eq_getElem?_getD,h5,List.getD_eq_getElem?_getD,List.getElem?_eq_getElem hj]; rfl
theorem fy.take {H:View} {id off k:Nat} {l:List Int} (h:fy H (.sl id off k 1) l) {m:Nat} (hm:m≤l.length):fy H (.sl id off m 1) (l.take m):=by
  obtain ⟨id',off',es,h1,h2,h3,h4⟩:=h
  simp only[V.sl.injEq,and_true] at h1
  obtain ⟨rfl,rfl,rfl⟩:=h1
  refine ⟨id,off,es,by simp; omega,h2,by simp; omega,?_⟩
  have h5:=congrArg (List.take m) h4
  rw[List.take_take,show min m l.length=m by omega] at h5
  rw[show (l.take m).length=m by simp; omega,h5]
  exact List.map_take.symm
theorem aG.same {P:Program} {q:Bool} {f:FuncId} {vs:List V} {H:View} {K:V→View→Prop} {w:cq (H,K)} {v:V} (hc:aB P f vs H fun r H'=>H'=H∧r=v) (hk:K v H):aG P q f vs H K w:=by
  unfold aG
  cases q with
  | true =>
    simp only[if_true]
    exact (hc.mono fun r H' h=>⟨fun id _=>by rw[h.1],by rw[h.1,h.2]; exact hk⟩).Hw
  | false =>
    simp only[Bool.false_eq_true,if_false]
    exact hc.mono fun r H' h=>by rw[h.1,h.2]; exact hk
def Gx:Value→Value→Bool
  | .int k a,.int k' b=>decide (k=k') && decide (a=b)
  | .bool a,.bool b=>a == b
  | .string a,.string b=>gu a b
  | .pointer none,.pointer none=>true
  | _,_=>false
theorem Li:∀ (a b:Value),Gx a b=true→a=b:=by
  intro a b h
  unfold Gx at h
  split at h
  · simp only[Bool.and_eq_true,decide_eq_true_eq] at h
    rw[h.1,h.2]
  · rename_i a b
    rw[show a=b by simpa using h]
  · rename_i a b
    obtain ⟨a⟩:=a
    obtain ⟨b⟩:=b
    simp only[gu,beq_iff_eq] at h
    rw[show a=b from Array.toList_inj.1 h]
  · rfl
  · simp at h
def wD (q:V→V→Bool):List V→List V→Bool
  | [],[]=>true
  | a :: l,b :: m=>q a b && wD q l m
  | _,_=>false
def E3 (q:V→V→Bool):List (List V)→List (List V)→Bool
  | [],[]=>true
  | a :: l,b :: m=>wD q a b && E3 q l m
  | _,_=>false
def AX:Nat→V→V→Bool
  | 0,_,_=>false
  | k+1,a,b=>match a,b with
    | .val x,.val y=>Gx x y
    | .aP x,.aP y=>E3 (AX k) x y
    | .agg x,.agg y=>wD (AX k) x y
    | .bg x,.bg y=>wD (AX k) x y
    | _,_=>false
theorem rU {q:V→V→Bool} (hq:∀ a b,q a b=true→a=b):∀ (l m:List V),wD q l m=true→l=m
  | [],[],_=>rfl
  | a :: l,b :: m,h=>by
    simp only[wD,Bool.and_eq_true] at h
    rw[hq a b h.1,rU hq l m h.2]
  | [],_ :: _,h=>by simp[wD] at h
  | _ :: _,[],h=>by simp[wD] at h
theorem JP {q:V→V→Bool} (hq:∀ a b,q a b=true→a=b):∀ (l m:List (List V)),E3 q l m=true→l=m
  | [],[],_=>rfl
  | a :: l,b :: m,h=>by
    simp only[E3,Bool.and_eq_true] at h
    rw[rU hq a b h.1,JP hq l m h.2]
  | [],_ :: _,h=>by simp[E3] at h
  | _ :: _,[],h=>by simp[E3] at h
theorem Dq:∀ (k:Nat) (a b:V),AX k a b=true→a=b
  | 0,_,_,h=>by simp[AX] at h
  | k+1,a,b,h=>by
    have ih:=Dq k
    unfold AX at h
    split at h
    · rw[Li _ _ h]
    · rw[JP ih _ _ h]
    · rw[rU ih _ _ h]
    · rw[rU ih _ _ h]
    · simp at h
def pX:Nat→V→Bool
  | 0,_=>false
  | k+1,v=>match v with
    | .val _=>true
    | .emp _=>true
    | .c7=>true
    | .aP es=>es.all fun e=>e.all (pX k)
    | .agg cs=>cs.all (pX k)
    | .bg cs=>cs.all (pX k)
    | _=>false
theorem sK {q:V→Bool} {l:List V} (h:l.all q=true) {i:Nat} (hi:i < l.length):q (l.getD i .any)=true:=by
  have e:l.getD i .any=l[i]:=by simp[List.getD_eq_getElem?_getD,hi]
  rw[e]
  exact List.all_eq_true.1 h _ (List.getElem_mem _)
theorem xq:∀ (k:Nat) (v:V),pX k v=true→Tree v
  | 0,_,h=>by simp[pX] at h
  | k+1,v,h=>by
    have ih:=xq k
    unfold pX at h
    split at h
    · exact .val _
    · exact .emp _
    · exact .c7
    · rename_i es
      refine .aP _ fun i j hi hj=>ih _ ?_
      have e:es.getD i []=es[i]:=by simp[List.getD_eq_getElem?_getD,hi]
      have h1:=List.all_eq_true.1 h _ (List.getElem_mem hi)
      rw[e] at hj ⊢
      exact sK h1 hj
    · exact .agg _ fun i hi=>ih _ (sK h hi)
    · exact .bg _ fun i hi=>ih _ (sK h hi)
    · simp at h
noncomputable def sX (H:View):Nat→V→Option V
  | 0,_=>none
  | k+1,v=>match v with
    | .val x=>some (.val x)
    | .emp _=>some (.aP [])
    | .aP es=>match pX 60 (.aP es) with
      | true=>some (.aP es)
      | false=>none
    | .sl id off len _=>match H id with
      | .arr _ es=>match Nat.ble (off+len) es.length with
        | true=>(zV (sX H k) ((es.drop off).take len)).map .aP
        | false=>none
      | _=>none
    | .agg cs=>(kT (sX H k) cs).map .agg
    | .bg cs=>(kT (sX H k) cs).map .bg
    | _=>none
theorem Aa (h:aD):∀ (k:Nat) (v t:V),sX h.view k v=some t→Fr h v t
  | 0,v,t,hf=>by simp[sX] at hf
  | k+1,v,t,hf=>by
    have ih:=Aa h k
    simp only[sX] at hf
    split at hf
    · simp only[Option.some.injEq] at hf; subst hf; exact .tree _ (.val _)
    · simp only[Option.some.injEq] at hf; subst hf; exact .emp _
    · split at hf
      · rename_i ht
        simp only[Option.some.injEq] at hf; subst hf; exact .tree _ (xq _ _ ht)
      · simp at hf
    · rename_i id off len esz
      split at hf
      · rename_i z es hH
        split at hf
        · rename_i hle
          have hle:=Nat.le_of_ble_eq_true hle
          simp only[Option.map_eq_some_iff] at hf
          obtain ⟨es',he,rfl⟩:=hf
          obtain ⟨g1,g2⟩:=z2 _ _ he
          have hlen:es'.length=len:=by rw[g1]; simp; omega
          have hg:∀ i,i < len→((es.drop off).take len).getD i []=es.getD (off+i) []:=fun i hi=>by
            simp[List.getD_eq_getElem?_getD,List.getElem?_take,hi]
          have g3:∀ i,i < len→kT (sX h.view k) (es.getD (off+i) [])=some (es'.getD i []):=fun i hi=>by
            rw[← hg i hi]; exact g2 i (by rw[← g1,hlen]; exact hi)
          exact .sl id off len esz z es es' hH hle hlen (fun i hi=>(fO _ _ (g3 i hi)).1) (fun i j hi hj=>ih _ _ ((fO _ _ (g3 i hi)).2 j (by rw[← (fO _ _ (g3 i hi)).1]; exact hj)))
        · simp at hf
      · simp at hf
    · simp only[Option.map_eq_some_iff] at hf
      obtain ⟨l,hl,rfl⟩:=hf
      obtain ⟨g1,g2⟩:=fO _ _ hl
      exact .agg _ _ g1 (fun i hi=>ih _ _ (g2 i hi))
    · simp only[Option.map_eq_some_iff] at hf
      obtain ⟨l,hl,rfl⟩:=hf
      obtain ⟨g1,g2⟩:=fO _ _ hl
      exact .bg _ _ g1 (fun i hi=>ih _ _ (g2 i hi))
    · simp at hf
theorem aE.seen {P:Program} {f:FuncId} {vs ts:List V} {t:V} (hc:aE P f ts t) (ht:∀ i,i < vs.length→Tree (vs.getD i .any)) (hl:ts.length=vs.length) (hfr:∀ i,i < vs.length→Fr [] (vs.getD i .any) (ts.getD i .any)):aE P f vs t:=by
  intro Z μ w xs hrel hz
  have hr0:fG Z (fun _=>none) w.heap (cat [] fun _=>.dead):=by
    rw[Av]
    exact ⟨fun _=>trivial,fun i j b o s o' s' _ h=>by simp at h,fun id b o s h=>by simp at h,hz,fun id b o s h=>by simp at h⟩
  have hno:∀ b,¬ gJ (fun _=>none) b:=fun b ⟨_,_,_,h⟩=>by simp at h
  have hts:dL (fun b=>Z b∨gJ (fun _=>none) b) μ w.heap ts xs:=⟨by rw[hl,hrel.1],fun i hi=>x7 hr0 (hfr i (by omega)) (sg (hrel.2 i (by omega)) (ht i (by omega)))⟩
  refine (hc _ μ w xs hts (fun b hb=>hb.elim (hz b) (fun h=>absurd h (hno b)))).mono ?_
  rintro e w' ⟨x,Z',rfl,hv,hs,h1,h2,ho⟩
  exact ⟨x,Z',rfl,hv,hs,fun b hb=>h1 b (.inl hb),fun b hb=>(h2 b hb).elim (fun h=>h.elim .inl (fun h=>absurd h (hno b))) .inr,ho⟩
abbrev Ah:=FuncId × List V × V × Bool
def Ah.Ok (P:Program) (x:Ah):Prop:=cM P x.1=true∧if x.2.2.2=true then aE P x.1 x.2.1 x.2.2.1 else (dR P x.1 x.2.1 x.2.2.1∨(aE P x.1 x.2.1 x.2.2.1∧xJ x.2.2.1))
noncomputable def LH (g:FuncId) (vs:List V) (H:View) (x:Ah):Bool:=Nat.beq x.1 g && (match x.2.2.2 with
  | true=>vs.all (pX 60) && (match kT (sX (fun _=>.dead) 60) vs with
    | some ts=>wD (AX 60) ts x.2.1
    | none=>false)
  | false=>match kT (sX H 60) vs with
    | some ts=>wD (AX 60) ts x.2.1
    | none=>false)
noncomputable def LM (l:List Ah):vt:=fun g vs H=>(l.find? (LH g vs H)).map fun x=>x.2.2.1
theorem KB {P:Program} {l:List Ah} (hl:∀ x∈l,x.Ok P):pG P (LM l):=by
  intro g vs H t h
  unfold LM at h
  simp only[Option.map_eq_some_iff] at h
  obtain ⟨⟨f,ts,r,b⟩,hx,rfl⟩:=h
  obtain ⟨h1,h2⟩:=hl _ (List.mem_of_find?_eq_some hx)
  have hq:=List.find?_some hx
  simp only[LH,Bool.and_eq_true] at hq
  obtain ⟨hg,hq⟩:=hq
  have hg:=Nat.eq_of_beq_eq_true hg
  simp only at hg h1 h2 hq
  subst hg
  refine ⟨h1,?_⟩
  rintro h rfl
  cases b with
  | true =>
    simp only[Bool.and_eq_true] at hq
    obtain ⟨hq1,hq2⟩:=hq
    split at hq2
    · rename_i us hus
      obtain ⟨g1,g2⟩:=fO _ _ hus
      have:=rU (Dq 60) _ _ hq2
      subst this
      simp only[if_true] at h2
      exact bw.eQ (h2.seen (fun i hi=>xq _ _ (sK hq1 hi)) g1 fun i hi=>Aa [] 60 _ _ (g2 i hi)) h
    · simp at hq2
  | false =>
    simp only at hq
    split at hq
    · rename_i us hus
      obtain ⟨g1,g2⟩:=fO _ _ hus
      have:=rU (Dq 60) _ _ hq
      subst this
      have hfr:=fun i hi=>Aa h 60 _ _ (g2 i hi)
      simp only[Bool.false_eq_true,if_false] at h2
      rcases h2 with h2 | ⟨h2,h3⟩
      · exact bw.r5 h2 g1 hfr
      · exact bw.borrow h2 h3 g1 hfr
    · simp at hq
def qf (x:Int):Bool:=decide (-9223372036854775808≤x) && decide (x≤9223372036854775807)
theorem mE {x:Int} (h:qf x=true):bB x:=by
  unfold qf at h
  simp only[Bool.and_eq_true,decide_eq_true_eq] at h
  exact h
def okB (g:ao):Bool:=decide (g.aA.length≤900) && decide (g.aC.length≤100) && decide (g.rules.length≤900) && qf g.start && g.aA.all (fun t=>qf t.level && qf t.assoc) && g.rules.all fun r=>qf r.left && qf r.prec && decide (r.right.length≤900) && r.right.all qf
theorem MG {g:ao} (h:okB g=true):g.Ok∧g.Small:=by
  unfold okB at h
  simp only[Bool.and_eq_true,decide_eq_true_eq,List.all_eq_true] at h
  obtain ⟨⟨⟨⟨⟨h1,h2⟩,h3⟩,h4⟩,h5⟩,h6⟩:=h
  refine ⟨⟨by unfold bc; omega,by unfold bc; omega,by unfold bc; omega,mE h4,fun t ht=>⟨mE (h5 t ht).1,mE (h5 t ht).2⟩,fun r hr=>?_⟩,⟨by omega⟩⟩
  have:=h6 r hr
  exact ⟨mE this.1.1.1,mE this.1.1.2,by unfold bc; have:=this.1.2; omega,fun x hx=>mE (this.2 x hx)⟩
theorem qj:mK.Ok∧mK.Small:=MG (by kernel_rfl)
theorem OY {cs:List Value} (h:cs.length=2):cs=[cs.getD 0 undef,cs.getD 1 undef]:=by
  match cs,h with
  | [a,b],_=>rfl
structure NZ where
  OL:Int
  cell:Cell
  deriving DecidableEq
structure jJ where
  sym:Int
  to:Int
  deriving DecidableEq
structure Nq where
  aA:Int
  aC:Int
  rows:List (List NZ)
  of:List Int
  gotos:List (List jJ)
  to:List Int
structure Nq.Ok (p:Nq):Prop where
  aA:bB p.aA
  aC:bB p.aC
  rows:bc p.rows
  of:bc p.of∧∀ x∈p.of,bB x
  gotos:bc p.gotos
  to:bc p.to∧∀ x∈p.to,bB x
  row:∀ r∈p.rows,bc r∧∀ c∈r,bB c.OL∧bB c.cell.kind∧bB c.cell.n
  go:∀ r∈p.gotos,bc r∧∀ x∈r,bB x.sym∧bB x.to
theorem bq.as {H:View} {u:V} {sz:Nat} {es es':List (List V)} {L:List fa} (h:bq H ((u,sz,es) :: L)) (e:es=es'):bq H ((u,sz,es') :: L):=e ▸ h
end Gv
