/-
  Part 14 of the proof: what the machine does and what the functions answer.
  Conditions: those that each lemma names.
-/
import Derived.Test.YtkkdjpnkhhlnpaaGreatSGzA2M
set_option linter.unusedSimpArgs false
set_option linter.unusedVariables false
set_option maxRecDepth 100000
namespace Gv
open Go Go.Proofs
structure HJ where
  sym:Int
  to:Int
  deriving DecidableEq
structure zb where
  bg:Int
  dot:Int
  deriving DecidableEq
def GO (g:aE) (r:Int):List Int:=if r = -1 then [-1 - g.start] else (c5 g r).right
def F0 (g:aE) (x:zb):Prop:=(-1≤x.bg∧x.bg < (g.rules.length:Int))∧0≤x.dot∧x.dot≤(GO g x.bg).length
structure FR where
  IE:List zb
  IF:List HJ
  deriving DecidableEq
abbrev BV:=BitVec 32
abbrev Sets:=List (List BV)
section
variable {g:aE} {null:List Bool} {a:List FR} {ls:List (List zb)}
end
def b3 (g:aE) (t:Int):Int:=match g.az[t.toNat]? with
  | some x=>x.level
  | none=>0
def kT (g:aE) (t:Int):Int:=match g.az[t.toNat]? with
  | some x=>x.assoc
  | none=>0
def fE (g:aE) (bg term:Int):Int :=
  if bo g=false∨bg < 0∨(g.rules.length:Int)≤bg∨term < 0∨(g.az.length:Int) < term then 0
  else if term=g.az.length∨(c5 g bg).prec < 0∨b3 g (c5 g bg).prec=0∨b3 g term=0 then 4
  else if b3 g term < b3 g (c5 g bg).prec∨b3 g (c5 g bg).prec=b3 g term∧kT g term=1 then 1
  else if b3 g (c5 g bg).prec < b3 g term∨kT g term=2 then 2
  else 3
instance (g:aE) (x:zb):Decidable (F0 g x):=by unfold F0; infer_instance
section
variable {H:View} {b:Nat} {g:aE} {a:List FR} {ul us:V} {vs:List V} {ls:List (List zb)} {ss:Sets} {more:Bool} {L:List ed}
end
section
variable {H:View} {b:Nat} {g:aE} {a:List FR} {ul us:V} {vs:List V} {ls:List (List zb)} {ss:Sets} {more:Bool} {L:List ed}
end
section
variable {H:View} {b:Nat} {g:aE} {a:List FR} {ul us:V} {vs:List V} {ls:List (List zb)} {ss:Sets} {more:Bool} {L:List ed}
end
def jh:SF:=⟨.seq (ao [bu 3 0,ax 6 0]) <|
  .seq (.seq (.region false [⟨none,[aG 11 4 3,aB 12 66 [11],bB 13 12,aa 14 13]⟩,⟨(some (14,false)),[aa 15 1,aq 16 .lss 15 0]⟩,⟨none,[aT 17 14 16,aa 18 17]⟩,⟨(some (18,false)),[aa 19 1,al 20 2 3,ak 21 20,aH 22 21,aF 23 .geq 19 22]⟩,⟨none,[aT 24 18 23,aa 25 24]⟩,⟨(some (25,false)),[aa 26 2,aq 27 .lss 26 0]⟩,⟨none,[aT 28 25 27,aa 29 28]⟩,⟨(some (29,false)),[aa 30 2,al 31 0 3,ak 32 31,aH 33 32,aF 34 .gtr 30 33]⟩,⟨none,[aT 35 29 34]⟩]) <|
  .cond (.tmp 35) (.seq (ao [ax 6 0]) <|
  .ret) (.skip)) <|
  .seq (ao [al 36 2 3,ak 37 36,aa 38 1,aI 39 3 37 38,al 40 2 39,ak 41 40,aa 7 41]) <|
  .seq (.seq (.region false [⟨none,[aa 42 2,al 43 0 3,ak 44 43,aH 45 44,aF 46 .eql 42 45,aa 47 46]⟩,⟨(some (47,false)),[aa 48 7,aq 49 .lss 48 0]⟩,⟨none,[aT 50 47 49,aa 51 50]⟩,⟨(some (51,false)),[al 52 0 3,ak 53 52,aa 54 7,aI 55 3 53 54,al 56 1 55,ak 57 56,aq 58 .eql 57 0]⟩,⟨none,[aT 59 51 58,aa 60 59]⟩,⟨(some (60,false)),[al 61 0 3,ak 62 61,aa 63 2,aI 64 3 62 63,al 65 1 64,ak 66 65,aq 67 .eql 66 0]⟩,⟨none,[aT 68 60 67]⟩]) <|
  .cond (.tmp 68) (.seq (ao [ax 6 4]) <|
  .ret) (.skip)) <|
  .seq (ao [al 69 0 3,ak 70 69,aa 71 7,aI 72 3 70 71,al 73 1 72,ak 74 73,al 75 0 3,ak 76 75,aa 77 2,aI 78 3 76 77,al 79 1 78,ak 80 79,aa 8 74,aa 9 80]) <|
  .seq (ao [al 81 0 3,ak 82 81,aa 83 2,aI 84 3 82 83,al 85 2 84,ak 86 85,aa 10 86]) <|
  .seq (.block 0 (.seq (.region false [⟨none,[aa 88 8,aa 89 9,aF 90 .gtr 88 89,aa 91 90]⟩,⟨(some (91,false)),[aa 92 8,aa 93 9,aF 94 .eql 92 93,aa 95 94]⟩,⟨(some (95,true)),[aa 96 10,aq 97 .eql 96 1]⟩,⟨(some (91,false)),[bf 98 95 97]⟩,⟨none,[aT 99 91 98,aa 87 99]⟩]) <|
  .cond (.tmp 87) (.seq (ao [ax 6 1]) <|
  .ret) (.seq (.region false [⟨none,[aa 101 8,aa 102 9,aF 103 .lss 101 102,aa 104 103]⟩,⟨(some (104,false)),[aa 105 10,aq 106 .eql 105 2]⟩,⟨none,[aT 107 104 106,aa 100 107]⟩]) <|
  .cond (.tmp 100) (.seq (ao [ax 6 2]) <|
  .ret) (.skip)))) <|
  .seq (ao [ax 6 3]) <|
  .ret,
  [.tmp 6],108⟩
theorem mO:bb Tryz.prog 49 [3]=some jh:=by kernel_rfl
theorem nB {g:aE} {t:Int} {x:Term} (h:g.az[t.toNat]?=some x):b3 g t=x.level∧kT g t=x.assoc:=by
  simp[b3,kT,h]
set_option maxHeartbeats 8000000 in
theorem Aa (g:aE) (hg:g.Ok) (bg term:Int):aA Tryz.prog 49 [.agg (aw g),gi bg,gi term] (gi (fE g bg term)):=by
  refine aA.val (by
    intro v hv; simp at hv
    rcases hv with rfl | rfl | rfl
    · exact cI _ (dr g)
    · exact .val _
    · exact .val _) fun H=>?_
  have hr9:=Cs g hg
  refine aD.of mixed mO ?_
  simp only[aw,encS] at hr9
  simp (disch:=omega) only [↓wr,↓reduceIte,wq,ai,ah,an,ab,ae,ag,aj,isNil,Nat.reduceEqDiff,Nat.reduceAdd,Nat.reduceLT,Nat.reduceLeDiff,Int.reduceNeg,Int.reduceToNat,reduceCtorEq,jh,aw,encS]
  refine aJ.pure hr9 (by kernel_rfl) ?_
  have bad:bo g=false∨bg < 0∨(g.rules.length:Int)≤bg∨term < 0∨(g.az.length:Int) < term→fE g bg term=0:=fun h=>by rw[fE,if_pos h]
  cases hr:bo g with
  | false =>
    simp (disch:=omega) only [↓wr,↓reduceIte,wq,ai,ah,an,ab,ae,ag,aj,isNil,Nat.reduceEqDiff,Nat.reduceAdd,Nat.reduceLT,Nat.reduceLeDiff,Int.reduceNeg,Int.reduceToNat,reduceCtorEq]
    rw[bad (.inl hr)]
  | true =>
    have hf:=bW hr
    simp (disch:=omega) only [↓wr,↓reduceIte,wq,ai,ah,an,ab,ae,ag,aj,isNil,Nat.reduceEqDiff,Nat.reduceAdd,Nat.reduceLT,Nat.reduceLeDiff,Int.reduceNeg,Int.reduceToNat,reduceCtorEq]
    refine ar.dec (fun h1=>?_) (fun h1=>?_)
    · simp (disch:=omega) only [↓wr,↓reduceIte,wq,ai,ah,an,ab,ae,ag,aj,isNil,Nat.reduceEqDiff,Nat.reduceAdd,Nat.reduceLT,Nat.reduceLeDiff,Int.reduceNeg,Int.reduceToNat,reduceCtorEq]
      rw[bad (.inr (by omega))]
    simp (disch:=omega) only [↓wr,↓reduceIte,wq,ai,ah,an,ab,ae,ag,aj,isNil,Nat.reduceEqDiff,Nat.reduceAdd,Nat.reduceLT,Nat.reduceLeDiff,Int.reduceNeg,Int.reduceToNat,reduceCtorEq,aw]
    refine ar.dec (fun h2=>?_) (fun h2=>?_)
    · simp (disch:=omega) only [↓wr,↓reduceIte,wq,ai,ah,an,ab,ae,ag,aj,isNil,Nat.reduceEqDiff,Nat.reduceAdd,Nat.reduceLT,Nat.reduceLeDiff,Int.reduceNeg,Int.reduceToNat,reduceCtorEq]
      rw[bad (.inr (by omega))]
    simp (disch:=omega) only [↓wr,↓reduceIte,wq,ai,ah,an,ab,ae,ag,aj,isNil,Nat.reduceEqDiff,Nat.reduceAdd,Nat.reduceLT,Nat.reduceLeDiff,Int.reduceNeg,Int.reduceToNat,reduceCtorEq]
    refine ar.dec (fun h3=>?_) (fun h3=>?_)
    · simp (disch:=omega) only [↓wr,↓reduceIte,wq,ai,ah,an,ab,ae,ag,aj,isNil,Nat.reduceEqDiff,Nat.reduceAdd,Nat.reduceLT,Nat.reduceLeDiff,Int.reduceNeg,Int.reduceToNat,reduceCtorEq]
      rw[bad (.inr (by omega))]
    simp (disch:=omega) only [↓wr,↓reduceIte,wq,ai,ah,an,ab,ae,ag,aj,isNil,Nat.reduceEqDiff,Nat.reduceAdd,Nat.reduceLT,Nat.reduceLeDiff,Int.reduceNeg,Int.reduceToNat,reduceCtorEq,aw]
    refine ar.dec (fun h4=>?_) (fun h4=>?_)
    · simp (disch:=omega) only [↓wr,↓reduceIte,wq,ai,ah,an,ab,ae,ag,aj,isNil,Nat.reduceEqDiff,Nat.reduceAdd,Nat.reduceLT,Nat.reduceLeDiff,Int.reduceNeg,Int.reduceToNat,reduceCtorEq]
      rw[bad (.inr (by omega))]
    have hR:g.rules[bg.toNat]?=some (c5 g bg):=by unfold c5; exact getD_some (by omega)
    have hP:=hf.prec _ (List.mem_of_getElem? hR)
    have e0:fE g bg term=if term=g.az.length∨(c5 g bg).prec < 0∨b3 g (c5 g bg).prec=0∨b3 g term=0 then 4
        else if b3 g term < b3 g (c5 g bg).prec∨b3 g (c5 g bg).prec=b3 g term∧kT g term=1 then 1
        else if b3 g (c5 g bg).prec < b3 g term∨kT g term=2 then 2 else 3:=by
      rw[fE,if_neg (by rw[hr]; simp; omega)]
    rw[e0]
    clear e0 bad
    generalize c5 g bg=R at hR hP
    simp (disch:=omega) only [↓wr,↓reduceIte,wq,ai,ah,an,ab,ae,ag,aj,isNil,Nat.reduceEqDiff,Nat.reduceAdd,Nat.reduceLT,Nat.reduceLeDiff,Int.reduceNeg,Int.reduceToNat,reduceCtorEq,aw,List.getElem?_map,hR,Option.map_some,aY]
    refine ar.eq (fun h5=>?_) (fun h5=>?_)
    · simp (disch:=omega) only [↓wr,↓reduceIte,wq,ai,ah,an,ab,ae,ag,aj,isNil,Nat.reduceEqDiff,Nat.reduceAdd,Nat.reduceLT,Nat.reduceLeDiff,Int.reduceNeg,Int.reduceToNat,reduceCtorEq]
      rw[if_pos (.inl h5)]
    simp (disch:=omega) only [↓wr,↓reduceIte,wq,ai,ah,an,ab,ae,ag,aj,isNil,Nat.reduceEqDiff,Nat.reduceAdd,Nat.reduceLT,Nat.reduceLeDiff,Int.reduceNeg,Int.reduceToNat,reduceCtorEq]
    refine ar.dec (fun h6=>?_) (fun h6=>?_)
    · simp (disch:=omega) only [↓wr,↓reduceIte,wq,ai,ah,an,ab,ae,ag,aj,isNil,Nat.reduceEqDiff,Nat.reduceAdd,Nat.reduceLT,Nat.reduceLeDiff,Int.reduceNeg,Int.reduceToNat,reduceCtorEq]
      rw[if_pos (.inr (.inl h6))]
    have hp:g.az[R.prec.toNat]?=some (g.az[R.prec.toNat]'(by omega)):=List.getElem?_eq_getElem (by omega)
    have hq:g.az[term.toNat]?=some (g.az[term.toNat]'(by omega)):=List.getElem?_eq_getElem (by omega)
    generalize g.az[R.prec.toNat]'(by omega)=p at hp
    generalize g.az[term.toNat]'(by omega)=q at hq
    obtain ⟨l1,_⟩:=nB hp
    obtain ⟨l2,l3⟩:=nB hq
    rw[l1,l2,l3]
    simp (disch:=omega) only [↓wr,↓reduceIte,wq,ai,ah,an,ab,ae,ag,aj,isNil,Nat.reduceEqDiff,Nat.reduceAdd,Nat.reduceLT,Nat.reduceLeDiff,Int.reduceNeg,Int.reduceToNat,reduceCtorEq,aw,List.getElem?_map,hp,hq,Option.map_some,bN]
    refine ar.eq (fun h7=>?_) (fun h7=>?_)
    · simp (disch:=omega) only [↓wr,↓reduceIte,wq,ai,ah,an,ab,ae,ag,aj,isNil,Nat.reduceEqDiff,Nat.reduceAdd,Nat.reduceLT,Nat.reduceLeDiff,Int.reduceNeg,Int.reduceToNat,reduceCtorEq]
      rw[if_pos (.inr (.inr (.inl h7)))]
    simp (disch:=omega) only [↓wr,↓reduceIte,wq,ai,ah,an,ab,ae,ag,aj,isNil,Nat.reduceEqDiff,Nat.reduceAdd,Nat.reduceLT,Nat.reduceLeDiff,Int.reduceNeg,Int.reduceToNat,reduceCtorEq,aw,List.getElem?_map,hp,hq,Option.map_some,bN]
    refine ar.eq (fun h8=>?_) (fun h8=>?_)
    · simp (disch:=omega) only [↓wr,↓reduceIte,wq,ai,ah,an,ab,ae,ag,aj,isNil,Nat.reduceEqDiff,Nat.reduceAdd,Nat.reduceLT,Nat.reduceLeDiff,Int.reduceNeg,Int.reduceToNat,reduceCtorEq]
      rw[if_pos (.inr (.inr (.inr h8)))]
    rw[if_neg (by omega)]
    simp (disch:=omega) only [↓wr,↓reduceIte,wq,ai,ah,an,ab,ae,ag,aj,isNil,Nat.reduceEqDiff,Nat.reduceAdd,Nat.reduceLT,Nat.reduceLeDiff,Int.reduceNeg,Int.reduceToNat,reduceCtorEq,aw,List.getElem?_map,hp,hq,Option.map_some,bN]
    refine ar.dec (fun h9=>?_) (fun h9=>?_)
    · simp (disch:=omega) only [↓wr,↓reduceIte,wq,ai,ah,an,ab,ae,ag,aj,isNil,Nat.reduceEqDiff,Nat.reduceAdd,Nat.reduceLT,Nat.reduceLeDiff,Int.reduceNeg,Int.reduceToNat,reduceCtorEq]
      rw[if_pos (by omega)]
    simp (disch:=omega) only [↓wr,↓reduceIte,wq,ai,ah,an,ab,ae,ag,aj,isNil,Nat.reduceEqDiff,Nat.reduceAdd,Nat.reduceLT,Nat.reduceLeDiff,Int.reduceNeg,Int.reduceToNat,reduceCtorEq]
    refine ar.eq (fun h10=>?_) (fun h10=>?_)
    · simp (disch:=omega) only [↓wr,↓reduceIte,wq,ai,ah,an,ab,ae,ag,aj,isNil,Nat.reduceEqDiff,Nat.reduceAdd,Nat.reduceLT,Nat.reduceLeDiff,Int.reduceNeg,Int.reduceToNat,reduceCtorEq]
      refine ar.eq (fun h11=>?_) (fun h11=>?_)
      · simp (disch:=omega) only [↓wr,↓reduceIte,wq,ai,ah,an,ab,ae,ag,aj,isNil,Nat.reduceEqDiff,Nat.reduceAdd,Nat.reduceLT,Nat.reduceLeDiff,Int.reduceNeg,Int.reduceToNat,reduceCtorEq]
        rw[if_pos (by omega)]
      · simp (disch:=omega) only [↓wr,↓reduceIte,wq,ai,ah,an,ab,ae,ag,aj,isNil,Nat.reduceEqDiff,Nat.reduceAdd,Nat.reduceLT,Nat.reduceLeDiff,Int.reduceNeg,Int.reduceToNat,reduceCtorEq]
        rw[if_neg (by omega)]
        refine ar.dec (fun h12=>?_) (fun h12=>?_)
        · simp (disch:=omega) only [↓wr,↓reduceIte,wq,ai,ah,an,ab,ae,ag,aj,isNil,Nat.reduceEqDiff,Nat.reduceAdd,Nat.reduceLT,Nat.reduceLeDiff,Int.reduceNeg,Int.reduceToNat,reduceCtorEq]
          rw[if_pos (by omega)]
        simp (disch:=omega) only [↓wr,↓reduceIte,wq,ai,ah,an,ab,ae,ag,aj,isNil,Nat.reduceEqDiff,Nat.reduceAdd,Nat.reduceLT,Nat.reduceLeDiff,Int.reduceNeg,Int.reduceToNat,reduceCtorEq]
        refine ar.eq (fun h13=>?_) (fun h13=>?_)
        · simp (disch:=omega) only [↓wr,↓reduceIte,wq,ai,ah,an,ab,ae,ag,aj,isNil,Nat.reduceEqDiff,Nat.reduceAdd,Nat.reduceLT,Nat.reduceLeDiff,Int.reduceNeg,Int.reduceToNat,reduceCtorEq]
          rw[if_pos (by omega)]
        · simp (disch:=omega) only [↓wr,↓reduceIte,wq,ai,ah,an,ab,ae,ag,aj,isNil,Nat.reduceEqDiff,Nat.reduceAdd,Nat.reduceLT,Nat.reduceLeDiff,Int.reduceNeg,Int.reduceToNat,reduceCtorEq]
          rw[if_neg (by omega)]
    · simp (disch:=omega) only [↓wr,↓reduceIte,wq,ai,ah,an,ab,ae,ag,aj,isNil,Nat.reduceEqDiff,Nat.reduceAdd,Nat.reduceLT,Nat.reduceLeDiff,Int.reduceNeg,Int.reduceToNat,reduceCtorEq]
      rw[if_neg (by omega)]
      refine ar.dec (fun h12=>?_) (fun h12=>?_)
      · simp (disch:=omega) only [↓wr,↓reduceIte,wq,ai,ah,an,ab,ae,ag,aj,isNil,Nat.reduceEqDiff,Nat.reduceAdd,Nat.reduceLT,Nat.reduceLeDiff,Int.reduceNeg,Int.reduceToNat,reduceCtorEq]
        rw[if_pos (by omega)]
      simp (disch:=omega) only [↓wr,↓reduceIte,wq,ai,ah,an,ab,ae,ag,aj,isNil,Nat.reduceEqDiff,Nat.reduceAdd,Nat.reduceLT,Nat.reduceLeDiff,Int.reduceNeg,Int.reduceToNat,reduceCtorEq]
      refine ar.eq (fun h13=>?_) (fun h13=>?_)
      · simp (disch:=omega) only [↓wr,↓reduceIte,wq,ai,ah,an,ab,ae,ag,aj,isNil,Nat.reduceEqDiff,Nat.reduceAdd,Nat.reduceLT,Nat.reduceLeDiff,Int.reduceNeg,Int.reduceToNat,reduceCtorEq]
        rw[if_pos (by omega)]
      · simp (disch:=omega) only [↓wr,↓reduceIte,wq,ai,ah,an,ab,ae,ag,aj,isNil,Nat.reduceEqDiff,Nat.reduceAdd,Nat.reduceLT,Nat.reduceLeDiff,Int.reduceNeg,Int.reduceToNat,reduceCtorEq]
        rw[if_neg (by omega)]
def mC:SF:=⟨.seq (ao [aM 2 false]) <|
  .seq (ao [aa 3 0,aa 4 0,aF 5 .neq 3 4,aa 2 5]) <|
  .ret,
  [.tmp 2],6⟩
theorem qI:bb Tryz.prog 138 []=some mC:=by kernel_rfl
def kD:SF:=⟨.seq (ao [ax 4 0]) <|
  .seq (ao [aa 7 0,aB 8 138 [7],aa 5 8]) <|
  .seq (ao [aa 9 1,aB 10 138 [9],aa 6 10]) <|
  .seq (.seq (ao [aa 11 5]) <|
  .cond (.tmp 11) (.seq (.seq (ao [aa 12 6]) <|
  .cond (.tmp 12) (.seq (ao [ax 4 0]) <|
  .ret) (.skip)) <|
  .seq (ao [ax 4 (-1)]) <|
  .ret) (.skip)) <|
  .seq (.seq (ao [aa 13 6]) <|
  .cond (.tmp 13) (.seq (ao [ax 4 1]) <|
  .ret) (.skip)) <|
  .seq (.seq (ao [aa 14 0,aa 15 1,aF 16 .lss 14 15]) <|
  .cond (.tmp 16) (.seq (ao [ax 4 (-1)]) <|
  .ret) (.skip)) <|
  .seq (.seq (ao [aa 17 0,aa 18 1,aF 19 .gtr 17 18]) <|
  .cond (.tmp 19) (.seq (ao [ax 4 1]) <|
  .ret) (.skip)) <|
  .seq (ao [ax 4 0]) <|
  .ret,
  [.tmp 4],20⟩
theorem oY:bb Tryz.prog 93 []=some kD:=by kernel_rfl
def o7:SF:=⟨.seq (ao [bu 3 0,ax 6 0]) <|
  .seq (.block 0 (.seq (.region false [⟨none,[aG 11 4 3,aB 12 64 [11],bB 13 12,aa 14 13]⟩,⟨(some (14,false)),[aa 15 1,aq 16 .lss 15 0]⟩,⟨none,[aT 17 14 16,aa 18 17]⟩,⟨(some (18,false)),[aa 19 1,al 20 2 3,ak 21 20,aH 22 21,aF 23 .geq 19 22]⟩,⟨none,[aT 24 18 23,aa 25 24]⟩,⟨(some (25,false)),[aa 26 2,aq 27 .lss 26 0]⟩,⟨none,[aT 28 25 27,aa 29 28]⟩,⟨(some (29,false)),[aa 30 2,al 31 0 3,ak 32 31,aH 33 32,aF 34 .gtr 30 33]⟩,⟨none,[aT 35 29 34,aa 10 35]⟩]) <|
  .cond (.tmp 10) (.seq (ao [ax 6 0]) <|
  .ret) (.seq (.region false [⟨none,[aa 37 2,al 38 0 3,ak 39 38,aH 40 39,aF 41 .eql 37 40,aa 42 41]⟩,⟨(some (42,false)),[al 43 2 3,ak 44 43,aa 45 1,aI 46 3 44 45,al 47 2 46,ak 48 47,aq 49 .lss 48 0]⟩,⟨none,[aT 50 42 49,aa 36 50]⟩]) <|
  .cond (.tmp 36) (.seq (ao [ax 6 4]) <|
  .ret) (.skip)))) <|
  .seq (.region false [⟨none,[al 51 0 3,ak 52 51,al 53 2 3,ak 54 53,aa 55 1,aI 56 3 54 55,al 57 2 56,ak 58 57,aI 59 3 52 58,aG 60 3 59,al 61 0 3,ak 62 61,aa 63 2,aI 64 3 62 63,aG 65 3 64,((some 7),.op (.alloc [(.val (.string ⟨#[]⟩)),(.val (.int .i64 0)),(.val (.int .i64 0))])),((some 8),.op (.alloc [(.val (.string ⟨#[]⟩)),(.val (.int .i64 0)),(.val (.int .i64 0))])),(none,.op (.store 3 (.tmp 7) (.tmp 60))),(none,.op (.store 3 (.tmp 8) (.tmp 65)))]⟩]) <|
  .seq (.seq (.region false [⟨none,[al 66 1 7,ak 67 66,aq 68 .eql 67 0,aa 69 68]⟩,⟨(some (69,false)),[al 70 1 8,ak 71 70,aq 72 .eql 71 0]⟩,⟨none,[aT 73 69 72]⟩]) <|
  .cond (.tmp 73) (.seq (ao [ax 6 4]) <|
  .ret) (.skip)) <|
  .seq (.seq (ao [al 74 1 7,ak 75 74,al 76 1 8,ak 77 76,aB 78 93 [75,77],aa 9 78]) <|
  .block 1 (.seq (ao [aa 80 9,aq 81 .gtr 80 0,aa 79 81]) <|
  .cond (.tmp 79) (.seq (ao [ax 6 1]) <|
  .ret) (.seq (ao [aa 83 9,aq 84 .lss 83 0,aa 82 84]) <|
  .cond (.tmp 82) (.seq (ao [ax 6 2]) <|
  .ret) (.skip)))) <|
  .seq (.seq (ao [al 85 2 8,ak 86 85]) <|
  .block 2 (.seq (ao [aq 88 .eql 86 1,aa 87 88]) <|
  .cond (.tmp 87) (.seq (ao [ax 6 1]) <|
  .ret) (.seq (ao [aq 90 .eql 86 2,aa 89 90]) <|
  .cond (.tmp 89) (.seq (ao [ax 6 2]) <|
  .ret) (.skip)))) <|
  .seq (ao [ax 6 3]) <|
  .ret,
  [.tmp 6],91⟩
theorem sG:bb Tryz.prog 48 [3]=some o7:=by kernel_rfl
def fC:SF:=⟨.seq (ao [bu 3 0,aM 6 false]) <|
  .seq (.seq (ao [aB 7 39 [],bB 8 7]) <|
  .cond (.tmp 8) (.seq (ao [aM 6 false]) <|
  .ret) (.skip)) <|
  .seq (.seq (ao [aG 9 4 3,aB 10 16 [9]]) <|
  .cond (.tmp 10) (.seq (ao [aM 6 true]) <|
  .ret) (.skip)) <|
  .seq (.region true [⟨none,[aG 11 4 3,aa 12 1,aa 13 2,aB 14 48 [11,12,13],aG 15 4 3,aa 16 1,aa 17 2,aB 18 49 [15,16,17],aF 19 .eql 14 18,aa 6 19]⟩]) <|
  .ret,
  [.tmp 6],20⟩
theorem jz:bb Tryz.prog 12 [3]=some fC:=by kernel_rfl
def yx (x y:Int):Int:=if x < y then -1 else if y < x then 1 else 0
theorem zJ (x:Int):aA Tryz.prog 138 [gi x] (gb false):=by
  refine aA.val (by intro v hv; simp at hv; subst hv; exact .val _) fun H=>?_
  refine aD.of mixed qI ?_
  simp (disch:=omega) only [↓wr,↓reduceIte,wq,ai,ah,an,ab,ae,ag,aj,isNil,Nat.reduceEqDiff,Nat.reduceAdd,Nat.reduceLT,Nat.reduceLeDiff,Int.reduceNeg,Int.reduceToNat,reduceCtorEq,mC]
  try simp
theorem BL (x y:Int):aA Tryz.prog 93 [gi x,gi y] (gi (yx x y)):=by
  refine aA.val (by intro v hv; simp at hv; rcases hv with rfl | rfl <;> exact .val _) fun H=>?_
  refine aD.of mixed oY ?_
  simp (disch:=omega) only [↓wr,↓reduceIte,wq,ai,ah,an,ab,ae,ag,aj,isNil,Nat.reduceEqDiff,Nat.reduceAdd,Nat.reduceLT,Nat.reduceLeDiff,Int.reduceNeg,Int.reduceToNat,reduceCtorEq,kD]
  refine aJ.pure (zJ x) (by kernel_rfl) ?_
  simp (disch:=omega) only [↓wr,↓reduceIte,wq,ai,ah,an,ab,ae,ag,aj,isNil,Nat.reduceEqDiff,Nat.reduceAdd,Nat.reduceLT,Nat.reduceLeDiff,Int.reduceNeg,Int.reduceToNat,reduceCtorEq]
  refine aJ.pure (zJ y) (by kernel_rfl) ?_
  simp (disch:=omega) only [↓wr,↓reduceIte,wq,ai,ah,an,ab,ae,ag,aj,isNil,Nat.reduceEqDiff,Nat.reduceAdd,Nat.reduceLT,Nat.reduceLeDiff,Int.reduceNeg,Int.reduceToNat,reduceCtorEq]
  refine ar.dec (fun h1=>?_) (fun h1=>?_)
  · simp (disch:=omega) only [↓wr,↓reduceIte,wq,ai,ah,an,ab,ae,ag,aj,isNil,Nat.reduceEqDiff,Nat.reduceAdd,Nat.reduceLT,Nat.reduceLeDiff,Int.reduceNeg,Int.reduceToNat,reduceCtorEq]
    rw[yx,if_pos h1]
  simp (disch:=omega) only [↓wr,↓reduceIte,wq,ai,ah,an,ab,ae,ag,aj,isNil,Nat.reduceEqDiff,Nat.reduceAdd,Nat.reduceLT,Nat.reduceLeDiff,Int.reduceNeg,Int.reduceToNat,reduceCtorEq]
  refine ar.dec (fun h2=>?_) (fun h2=>?_)
  · simp (disch:=omega) only [↓wr,↓reduceIte,wq,ai,ah,an,ab,ae,ag,aj,isNil,Nat.reduceEqDiff,Nat.reduceAdd,Nat.reduceLT,Nat.reduceLeDiff,Int.reduceNeg,Int.reduceToNat,reduceCtorEq]
    rw[yx,if_neg h1,if_pos h2]
  simp (disch:=omega) only [↓wr,↓reduceIte,wq,ai,ah,an,ab,ae,ag,aj,isNil,Nat.reduceEqDiff,Nat.reduceAdd,Nat.reduceLT,Nat.reduceLeDiff,Int.reduceNeg,Int.reduceToNat,reduceCtorEq]
  rw[yx,if_neg h1,if_neg h2]
set_option maxHeartbeats 8000000 in
theorem Ck (g:aE) (hg:g.Ok) (hsm:g.Small) (bg term:Int):aA Tryz.prog 48 [.agg (aw g),gi bg,gi term] (gi (fE g bg term)):=by
  refine aA.val (by
    intro v hv; simp at hv
    rcases hv with rfl | rfl | rfl
    · exact cI _ (dr g)
    · exact .val _
    · exact .val _) fun H=>?_
  have hr9:=iC g hg hsm.names
  refine aD.of mixed sG ?_
  simp only[aw,encS] at hr9
  simp (disch:=omega) only [↓wr,↓reduceIte,wq,ai,ah,an,ab,ae,ag,aj,isNil,Nat.reduceEqDiff,Nat.reduceAdd,Nat.reduceLT,Nat.reduceLeDiff,Int.reduceNeg,Int.reduceToNat,reduceCtorEq,o7,aw,encS]
  refine aJ.pure hr9 (by kernel_rfl) ?_
  have bad:bo g=false∨bg < 0∨(g.rules.length:Int)≤bg∨term < 0∨(g.az.length:Int) < term→fE g bg term=0:=fun h=>by rw[fE,if_pos h]
  cases hr:bo g with
  | false =>
    simp (disch:=omega) only [↓wr,↓reduceIte,wq,ai,ah,an,ab,ae,ag,aj,isNil,Nat.reduceEqDiff,Nat.reduceAdd,Nat.reduceLT,Nat.reduceLeDiff,Int.reduceNeg,Int.reduceToNat,reduceCtorEq]
    rw[bad (.inl hr)]
  | true =>
    have hf:=bW hr
    simp (disch:=omega) only [↓wr,↓reduceIte,wq,ai,ah,an,ab,ae,ag,aj,isNil,Nat.reduceEqDiff,Nat.reduceAdd,Nat.reduceLT,Nat.reduceLeDiff,Int.reduceNeg,Int.reduceToNat,reduceCtorEq]
    refine ar.dec (fun h1=>?_) (fun h1=>?_)
    · simp (disch:=omega) only [↓wr,↓reduceIte,wq,ai,ah,an,ab,ae,ag,aj,isNil,Nat.reduceEqDiff,Nat.reduceAdd,Nat.reduceLT,Nat.reduceLeDiff,Int.reduceNeg,Int.reduceToNat,reduceCtorEq]
      rw[bad (.inr (by omega))]
    simp (disch:=omega) only [↓wr,↓reduceIte,wq,ai,ah,an,ab,ae,ag,aj,isNil,Nat.reduceEqDiff,Nat.reduceAdd,Nat.reduceLT,Nat.reduceLeDiff,Int.reduceNeg,Int.reduceToNat,reduceCtorEq,aw]
    refine ar.dec (fun h2=>?_) (fun h2=>?_)
    · simp (disch:=omega) only [↓wr,↓reduceIte,wq,ai,ah,an,ab,ae,ag,aj,isNil,Nat.reduceEqDiff,Nat.reduceAdd,Nat.reduceLT,Nat.reduceLeDiff,Int.reduceNeg,Int.reduceToNat,reduceCtorEq]
      rw[bad (.inr (by omega))]
    simp (disch:=omega) only [↓wr,↓reduceIte,wq,ai,ah,an,ab,ae,ag,aj,isNil,Nat.reduceEqDiff,Nat.reduceAdd,Nat.reduceLT,Nat.reduceLeDiff,Int.reduceNeg,Int.reduceToNat,reduceCtorEq]
    refine ar.dec (fun h3=>?_) (fun h3=>?_)
    · simp (disch:=omega) only [↓wr,↓reduceIte,wq,ai,ah,an,ab,ae,ag,aj,isNil,Nat.reduceEqDiff,Nat.reduceAdd,Nat.reduceLT,Nat.reduceLeDiff,Int.reduceNeg,Int.reduceToNat,reduceCtorEq]
      rw[bad (.inr (by omega))]
    simp (disch:=omega) only [↓wr,↓reduceIte,wq,ai,ah,an,ab,ae,ag,aj,isNil,Nat.reduceEqDiff,Nat.reduceAdd,Nat.reduceLT,Nat.reduceLeDiff,Int.reduceNeg,Int.reduceToNat,reduceCtorEq,aw]
    refine ar.dec (fun h4=>?_) (fun h4=>?_)
    · simp (disch:=omega) only [↓wr,↓reduceIte,wq,ai,ah,an,ab,ae,ag,aj,isNil,Nat.reduceEqDiff,Nat.reduceAdd,Nat.reduceLT,Nat.reduceLeDiff,Int.reduceNeg,Int.reduceToNat,reduceCtorEq]
      rw[bad (.inr (by omega))]
    have hR:g.rules[bg.toNat]?=some (c5 g bg):=by unfold c5; exact getD_some (by omega)
    have hP:=hf.prec _ (List.mem_of_getElem? hR)
    have e0:fE g bg term=if term=g.az.length∨(c5 g bg).prec < 0∨b3 g (c5 g bg).prec=0∨b3 g term=0 then 4
        else if b3 g term < b3 g (c5 g bg).prec∨b3 g (c5 g bg).prec=b3 g term∧kT g term=1 then 1
        else if b3 g (c5 g bg).prec < b3 g term∨kT g term=2 then 2 else 3:=by
      rw[fE,if_neg (by rw[hr]; simp; omega)]
    rw[e0]
    clear e0 bad
    generalize c5 g bg=R at hR hP
    simp (disch:=omega) only [↓wr,↓reduceIte,wq,ai,ah,an,ab,ae,ag,aj,isNil,Nat.reduceEqDiff,Nat.reduceAdd,Nat.reduceLT,Nat.reduceLeDiff,Int.reduceNeg,Int.reduceToNat,reduceCtorEq,aw]
    refine ar.eq (fun h5=>?_) (fun h5=>?_)
    · simp (disch:=omega) only [↓wr,↓reduceIte,wq,ai,ah,an,ab,ae,ag,aj,isNil,Nat.reduceEqDiff,Nat.reduceAdd,Nat.reduceLT,Nat.reduceLeDiff,Int.reduceNeg,Int.reduceToNat,reduceCtorEq]
      rw[if_pos (.inl h5)]
    simp (disch:=omega) only [↓wr,↓reduceIte,wq,ai,ah,an,ab,ae,ag,aj,isNil,Nat.reduceEqDiff,Nat.reduceAdd,Nat.reduceLT,Nat.reduceLeDiff,Int.reduceNeg,Int.reduceToNat,reduceCtorEq,aw,List.getElem?_map,hR,Option.map_some,aY]
    refine ar.dec (fun h6=>?_) (fun h6=>?_)
    · simp (disch:=omega) only [↓wr,↓reduceIte,wq,ai,ah,an,ab,ae,ag,aj,isNil,Nat.reduceEqDiff,Nat.reduceAdd,Nat.reduceLT,Nat.reduceLeDiff,Int.reduceNeg,Int.reduceToNat,reduceCtorEq]
      rw[if_pos (.inr (.inl h6))]
    have hp:g.az[R.prec.toNat]?=some (g.az[R.prec.toNat]'(by omega)):=List.getElem?_eq_getElem (by omega)
    have hq:g.az[term.toNat]?=some (g.az[term.toNat]'(by omega)):=List.getElem?_eq_getElem (by omega)
    generalize g.az[R.prec.toNat]'(by omega)=p at hp
    generalize g.az[term.toNat]'(by omega)=q at hq
    obtain ⟨l1,_⟩:=nB hp
    obtain ⟨l2,l3⟩:=nB hq
    rw[l1,l2,l3]
    have hcmp:=BL p.level q.level
    simp (disch:=omega) only [↓wr,↓reduceIte,wq,ai,ah,an,ab,ae,ag,aj,isNil,Nat.reduceEqDiff,Nat.reduceAdd,Nat.reduceLT,Nat.reduceLeDiff,Int.reduceNeg,Int.reduceToNat,reduceCtorEq,aw,List.getElem?_map,hR,hp,hq,Option.map_some,aY,bN]
    intro b7 hb7 b8 hb8
    have n78:¬ b7=b8:=fun e=>(dC hb8 dG).1 e.symm
    have n87:¬ b8=b7:=fun e=>n78 e.symm
    simp (disch:=omega) only [↓wr,↓reduceIte,wq,ai,ah,an,ab,ae,ag,aj,isNil,Nat.reduceEqDiff,Nat.reduceAdd,Nat.reduceLT,Nat.reduceLeDiff,Int.reduceNeg,Int.reduceToNat,reduceCtorEq,n78,n87,set_set,bN]
    refine ar.eq (fun h7=>?_) (fun h7=>?_)
    · simp (disch:=omega) only [↓wr,↓reduceIte,wq,ai,ah,an,ab,ae,ag,aj,isNil,Nat.reduceEqDiff,Nat.reduceAdd,Nat.reduceLT,Nat.reduceLeDiff,Int.reduceNeg,Int.reduceToNat,reduceCtorEq]
      rw[if_pos (.inr (.inr (.inl h7)))]
    simp (disch:=omega) only [↓wr,↓reduceIte,wq,ai,ah,an,ab,ae,ag,aj,isNil,Nat.reduceEqDiff,Nat.reduceAdd,Nat.reduceLT,Nat.reduceLeDiff,Int.reduceNeg,Int.reduceToNat,reduceCtorEq,n78,n87,bN]
    refine ar.eq (fun h8=>?_) (fun h8=>?_)
    · simp (disch:=omega) only [↓wr,↓reduceIte,wq,ai,ah,an,ab,ae,ag,aj,isNil,Nat.reduceEqDiff,Nat.reduceAdd,Nat.reduceLT,Nat.reduceLeDiff,Int.reduceNeg,Int.reduceToNat,reduceCtorEq]
      rw[if_pos (.inr (.inr (.inr h8)))]
    rw[if_neg (by omega)]
    simp (disch:=omega) only [↓wr,↓reduceIte,wq,ai,ah,an,ab,ae,ag,aj,isNil,Nat.reduceEqDiff,Nat.reduceAdd,Nat.reduceLT,Nat.reduceLeDiff,Int.reduceNeg,Int.reduceToNat,reduceCtorEq,n78,n87,bN]
    refine aJ.pure hcmp (by kernel_rfl) ?_
    unfold yx
    simp (disch:=omega) only [↓wr,↓reduceIte,wq,ai,ah,an,ab,ae,ag,aj,isNil,Nat.reduceEqDiff,Nat.reduceAdd,Nat.reduceLT,Nat.reduceLeDiff,Int.reduceNeg,Int.reduceToNat,reduceCtorEq]
    by_cases c1:p.level < q.level
    · rw[if_pos c1,if_neg (by omega),if_pos (by omega)]
      refine ar.dec (fun h=>absurd h (by omega)) (fun _=>?_)
      simp (disch:=omega) only [↓wr,↓reduceIte,wq,ai,ah,an,ab,ae,ag,aj,isNil,Nat.reduceEqDiff,Nat.reduceAdd,Nat.reduceLT,Nat.reduceLeDiff,Int.reduceNeg,Int.reduceToNat,reduceCtorEq]
      refine ar.dec (fun _=>?_) (fun h=>absurd (by omega) h)
      simp (disch:=omega) only [↓wr,↓reduceIte,wq,ai,ah,an,ab,ae,ag,aj,isNil,Nat.reduceEqDiff,Nat.reduceAdd,Nat.reduceLT,Nat.reduceLeDiff,Int.reduceNeg,Int.reduceToNat,reduceCtorEq]
    rw[if_neg c1]
    by_cases c2:q.level < p.level
    · rw[if_pos c2,if_pos (by omega)]
      refine ar.dec (fun _=>?_) (fun h=>absurd (by omega) h)
      simp (disch:=omega) only [↓wr,↓reduceIte,wq,ai,ah,an,ab,ae,ag,aj,isNil,Nat.reduceEqDiff,Nat.reduceAdd,Nat.reduceLT,Nat.reduceLeDiff,Int.reduceNeg,Int.reduceToNat,reduceCtorEq]
    rw[if_neg c2]
    refine ar.dec (fun h=>absurd h (by omega)) (fun _=>?_)
    simp (disch:=omega) only [↓wr,↓reduceIte,wq,ai,ah,an,ab,ae,ag,aj,isNil,Nat.reduceEqDiff,Nat.reduceAdd,Nat.reduceLT,Nat.reduceLeDiff,Int.reduceNeg,Int.reduceToNat,reduceCtorEq]
    refine ar.dec (fun h=>absurd h (by omega)) (fun _=>?_)
    simp (disch:=omega) only [↓wr,↓reduceIte,wq,ai,ah,an,ab,ae,ag,aj,isNil,Nat.reduceEqDiff,Nat.reduceAdd,Nat.reduceLT,Nat.reduceLeDiff,Int.reduceNeg,Int.reduceToNat,reduceCtorEq,n78,n87,bN]
    refine ar.eq (fun h9=>?_) (fun h9=>?_)
    · simp (disch:=omega) only [↓wr,↓reduceIte,wq,ai,ah,an,ab,ae,ag,aj,isNil,Nat.reduceEqDiff,Nat.reduceAdd,Nat.reduceLT,Nat.reduceLeDiff,Int.reduceNeg,Int.reduceToNat,reduceCtorEq]
      rw[if_pos (by omega)]
    simp (disch:=omega) only [↓wr,↓reduceIte,wq,ai,ah,an,ab,ae,ag,aj,isNil,Nat.reduceEqDiff,Nat.reduceAdd,Nat.reduceLT,Nat.reduceLeDiff,Int.reduceNeg,Int.reduceToNat,reduceCtorEq]
    refine ar.eq (fun h10=>?_) (fun h10=>?_)
    · simp (disch:=omega) only [↓wr,↓reduceIte,wq,ai,ah,an,ab,ae,ag,aj,isNil,Nat.reduceEqDiff,Nat.reduceAdd,Nat.reduceLT,Nat.reduceLeDiff,Int.reduceNeg,Int.reduceToNat,reduceCtorEq]
      rw[if_neg (by omega),if_pos (by omega)]
    simp (disch:=omega) only [↓wr,↓reduceIte,wq,ai,ah,an,ab,ae,ag,aj,isNil,Nat.reduceEqDiff,Nat.reduceAdd,Nat.reduceLT,Nat.reduceLeDiff,Int.reduceNeg,Int.reduceToNat,reduceCtorEq]
    rw[if_neg (by omega),if_neg (by omega)]
set_option maxHeartbeats 4000000 in
theorem uL (g:aE) (hg:g.Ok) (bg:Int) (_ : -9223372036854775808≤bg∧bg≤9223372036854775807) (term:Int) (_ : -9223372036854775808≤term∧term≤9223372036854775807):aA Tryz.prog 12 [.agg (aw g),gi bg,gi term] (gb true):=by
  refine aA.val (by
    intro v hv; simp at hv
    rcases hv with rfl | rfl | rfl
    · exact cI _ (dr g)
    · exact .val _
    · exact .val _) fun H=>?_
  refine aD.of mixed jz ?_
  have h2:=Aa g hg bg term
  simp (disch:=omega) only [↓wr,↓reduceIte,wq,ai,ah,an,ab,ae,ag,aj,isNil,Nat.reduceEqDiff,Nat.reduceAdd,Nat.reduceLT,Nat.reduceLeDiff,Int.reduceNeg,Int.reduceToNat,reduceCtorEq,fC,aw,encS]
  refine aJ.pure BN (by kernel_rfl) ?_
  simp (disch:=omega) only [↓wr,↓reduceIte,wq,ai,ah,an,ab,ae,ag,aj,isNil,Nat.reduceEqDiff,Nat.reduceAdd,Nat.reduceLT,Nat.reduceLeDiff,Int.reduceNeg,Int.reduceToNat,reduceCtorEq,aw,encS]
  refine aJ.pure (EI g) (by kernel_rfl) ?_
  simp (disch:=omega) only [↓wr,↓reduceIte,wq,ai,ah,an,ab,ae,ag,aj,isNil,Nat.reduceEqDiff,Nat.reduceAdd,Nat.reduceLT,Nat.reduceLeDiff,Int.reduceNeg,Int.reduceToNat,reduceCtorEq]
  refine ar.split (fun e=>?_) (fun e=>?_)
  · simp (disch:=omega) only [↓wr,↓reduceIte,wq,ai,ah,an,ab,ae,ag,aj,isNil,Nat.reduceEqDiff,Nat.reduceAdd,Nat.reduceLT,Nat.reduceLeDiff,Int.reduceNeg,Int.reduceToNat,reduceCtorEq]
  have h1:=Ck g hg (Ah e) bg term
  simp only[aw,encS] at h1 h2
  simp (disch:=omega) only [↓wr,↓reduceIte,wq,ai,ah,an,ab,ae,ag,aj,isNil,Nat.reduceEqDiff,Nat.reduceAdd,Nat.reduceLT,Nat.reduceLeDiff,Int.reduceNeg,Int.reduceToNat,reduceCtorEq,aw,encS]
  refine aJ.pure h1 (by kernel_rfl) ?_
  simp (disch:=omega) only [↓wr,↓reduceIte,wq,ai,ah,an,ab,ae,ag,aj,isNil,Nat.reduceEqDiff,Nat.reduceAdd,Nat.reduceLT,Nat.reduceLeDiff,Int.reduceNeg,Int.reduceToNat,reduceCtorEq,aw,encS]
  refine aJ.pure h2 (by kernel_rfl) ?_
  simp (disch:=omega) only [↓wr,↓reduceIte,wq,ai,ah,an,ab,ae,ag,aj,isNil,Nat.reduceEqDiff,Nat.reduceAdd,Nat.reduceLT,Nat.reduceLeDiff,Int.reduceNeg,Int.reduceToNat,reduceCtorEq]
  try simp
end Gv
