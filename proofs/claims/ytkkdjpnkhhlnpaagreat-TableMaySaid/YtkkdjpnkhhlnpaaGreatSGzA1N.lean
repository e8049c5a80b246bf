/-
  Part 14 of the proof: what the machine does and what the functions answer.
  Conditions: those that each lemma names.
-/
import Derived.Test.YtkkdjpnkhhlnpaaGreatSGzA1M
set_option linter.unusedSimpArgs false
set_option linter.unusedVariables false
set_option maxRecDepth 100000
namespace Gv
open Go Go.Proofs
def hX:SF:=⟨.seq (ao [bo 2 0,bo 3 1,aL 4 false]) <|
  .seq (.seq (ao [aB 5 39 [],bC 6 5]) <|
  .cond (.tmp 6) (.seq (ao [aL 4 false]) <|
  .ret) (.skip)) <|
  .seq (.seq (.region false [⟨none,[aG 7 4 2,aB 8 16 [7],aa 9 8]⟩,⟨(some (9,false)),[aG 10 2 3,aB 11 45 [10]]⟩,⟨none,[aX 12 9 11]⟩]) <|
  .cond (.tmp 12) (.seq (ao [aL 4 true]) <|
  .ret) (.skip)) <|
  .seq (.region true [⟨none,[aG 13 4 2,aG 14 2 3,aB 15 46 [13,14],aG 16 4 2,aG 17 2 3,aB 18 47 [16,17],((some 19),.op (.beq true (.tmp 15) (.tmp 18))),aa 4 19]⟩]) <|
  .ret,
  [.tmp 4],20⟩
theorem l9:aY Tryz.prog 11 [2,3]=some hX:=by kernel_rfl
set_option maxHeartbeats 4000000 in
theorem AO (g:aH) (hg:g.Ok) (t:lD) (ht:t.Ok):az Tryz.prog 11 [.agg (aw g),.agg (bb t)] (gb true):=by
  refine az.val (by
    intro v hv; simp at hv
    rcases hv with rfl | rfl
    · exact bP _ (dE g)
    · exact bP _ (kL t)) fun H=>?_
  refine aA.of mixed l9 ?_
  obtain ⟨b,hb⟩:=Cn t ht
  have h2:=CS g hg t ht
  simp only[bb] at hb
  simp (disch:=omega) only [↓wr,↓reduceIte,wq,ai,ah,an,ab,ae,ag,aj,isNil,Nat.reduceEqDiff,Nat.reduceAdd,Nat.reduceLT,Nat.reduceLeDiff,Int.reduceNeg,Int.reduceToNat,reduceCtorEq,hX,aw,encS,bb]
  refine aK.pure CN (by kernel_rfl) ?_
  simp (disch:=omega) only [↓wr,↓reduceIte,wq,ai,ah,an,ab,ae,ag,aj,isNil,Nat.reduceEqDiff,Nat.reduceAdd,Nat.reduceLT,Nat.reduceLeDiff,Int.reduceNeg,Int.reduceToNat,reduceCtorEq,aw,encS]
  refine aK.pure (F2 g) (by kernel_rfl) ?_
  simp (disch:=omega) only [↓wr,↓reduceIte,wq,ai,ah,an,ab,ae,ag,aj,isNil,Nat.reduceEqDiff,Nat.reduceAdd,Nat.reduceLT,Nat.reduceLeDiff,Int.reduceNeg,Int.reduceToNat,reduceCtorEq]
  refine ar.split (fun e=>?_) (fun e=>?_)
  · simp (disch:=omega) only [↓wr,↓reduceIte,wq,ai,ah,an,ab,ae,ag,aj,isNil,Nat.reduceEqDiff,Nat.reduceAdd,Nat.reduceLT,Nat.reduceLeDiff,Int.reduceNeg,Int.reduceToNat,reduceCtorEq]
  have hsm:g.Small:=AI e
  have h1:=EY g hg hsm t ht
  simp only[aw,encS,bb] at h1 h2
  simp (disch:=omega) only [↓wr,↓reduceIte,wq,ai,ah,an,ab,ae,ag,aj,isNil,Nat.reduceEqDiff,Nat.reduceAdd,Nat.reduceLT,Nat.reduceLeDiff,Int.reduceNeg,Int.reduceToNat,reduceCtorEq,bb]
  refine aK.pure hb (by kernel_rfl) ?_
  simp (disch:=omega) only [↓wr,↓reduceIte,wq,ai,ah,an,ab,ae,ag,aj,isNil,Nat.reduceEqDiff,Nat.reduceAdd,Nat.reduceLT,Nat.reduceLeDiff,Int.reduceNeg,Int.reduceToNat,reduceCtorEq]
  refine ar.split (fun _=>?_) (fun _=>?_)
  · simp (disch:=omega) only [↓wr,↓reduceIte,wq,ai,ah,an,ab,ae,ag,aj,isNil,Nat.reduceEqDiff,Nat.reduceAdd,Nat.reduceLT,Nat.reduceLeDiff,Int.reduceNeg,Int.reduceToNat,reduceCtorEq]
  simp (disch:=omega) only [↓wr,↓reduceIte,wq,ai,ah,an,ab,ae,ag,aj,isNil,Nat.reduceEqDiff,Nat.reduceAdd,Nat.reduceLT,Nat.reduceLeDiff,Int.reduceNeg,Int.reduceToNat,reduceCtorEq,aw,encS,bb]
  refine aK.pure h1 (by kernel_rfl) ?_
  simp (disch:=omega) only [↓wr,↓reduceIte,wq,ai,ah,an,ab,ae,ag,aj,isNil,Nat.reduceEqDiff,Nat.reduceAdd,Nat.reduceLT,Nat.reduceLeDiff,Int.reduceNeg,Int.reduceToNat,reduceCtorEq,aw,encS,bb]
  refine aK.pure h2 (by kernel_rfl) ?_
  simp (disch:=omega) only [↓wr,↓reduceIte,wq,ai,ah,an,ab,ae,ag,aj,isNil,Nat.reduceEqDiff,Nat.reduceAdd,Nat.reduceLT,Nat.reduceLeDiff,Int.reduceNeg,Int.reduceToNat,reduceCtorEq]
  simp
end Gv
