/-
  Part 15 of the proof: what the machine does and what the functions answer.
  Conditions: those that each lemma names.
-/
import Derived.Test.YtgniimkconobpaaGreatSGzKN
set_option linter.unusedSimpArgs false
set_option linter.unusedVariables false
set_option linter.unusedSimpArgs false
set_option maxRecDepth 100000
namespace Gv
open Go Go.Proofs
theorem ep (x:Bool × Int):tQ (dn x):=.bz _ fun i hi=>by
  match i,hi with
  | 0,_=>exact ⟨_,rfl⟩
  | 1,_=>exact ⟨_,rfl⟩
def lx:SF:=⟨.seq (al [aU 0 false]) <|
  .seq (al [((some 24),.op (.bH 16 1 [(.val (.int .u8 0))] [(0,(.val (.val (.int .u8 37)))),(1,(.val (.val (.int .u8 37)))),(2,(.val (.val (.int .u8 32)))),(3,(.val (.val (.int .u8 115)))),(4,(.val (.val (.int .u8 32)))),(5,(.val (.val (.int .u8 58)))),(6,(.val (.val (.int .u8 32)))),(7,(.val (.val (.int .u8 39)))),(8,(.val (.val (.int .u8 97)))),(9,(.val (.val (.int .u8 39)))),(10,(.val (.val (.int .u8 32)))),(11,(.val (.val (.int .u8 115)))),(12,(.val (.val (.int .u8 32)))),(13,(.val (.val (.int .u8 124)))),(14,(.val (.val (.int .u8 32)))),(15,(.val (.val (.int .u8 59))))])),((some 25),.op (.bm (.convert 57 57 (.tmp 24)) 57)),aG 26 33 [25],aa 23 26,bQ 27 0 23,bQ 28 1 23,bQ 29 2 23,((some 1),.op (.alloc [(.emp 1),(.emp 1),(.emp 1),(.val (.int .i64 0))])),(none,.op (.store 4 (.tmp 1) (.tmp 27))),aa 2 28,aa 3 29]) <|
  .seq (al [((some 31),.op (.bH 38 1 [(.val (.int .u8 0))] [(0,(.val (.val (.int .u8 37)))),(1,(.val (.val (.int .u8 37)))),(2,(.val (.val (.int .u8 32)))),(3,(.val (.val (.int .u8 115)))),(4,(.val (.val (.int .u8 32)))),(5,(.val (.val (.int .u8 58)))),(6,(.val (.val (.int .u8 32)))),(7,(.val (.val (.int .u8 115)))),(8,(.val (.val (.int .u8 32)))),(9,(.val (.val (.int .u8 115)))),(10,(.val (.val (.int .u8 32)))),(11,(.val (.val (.int .u8 124)))),(12,(.val (.val (.int .u8 32)))),(13,(.val (.val (.int .u8 110)))),(14,(.val (.val (.int .u8 32)))),(15,(.val (.val (.int .u8 39)))),(16,(.val (.val (.int .u8 97)))),(17,(.val (.val (.int .u8 39)))),(18,(.val (.val (.int .u8 32)))),(19,(.val (.val (.int .u8 110)))),(20,(.val (.val (.int .u8 32)))),(21,(.val (.val (.int .u8 39)))),(22,(.val (.val (.int .u8 98)))),(23,(.val (.val (.int .u8 39)))),(24,(.val (.val (.int .u8 32)))),(25,(.val (.val (.int .u8 124)))),(26,(.val (.val (.int .u8 32)))),(27,(.val (.val (.int .u8 59)))),(28,(.val (.val (.int .u8 32)))),(29,(.val (.val (.int .u8 110)))),(30,(.val (.val (.int .u8 32)))),(31,(.val (.val (.int .u8 58)))),(32,(.val (.val (.int .u8 32)))),(33,(.val (.val (.int .u8 110)))),(34,(.val (.val (.int .u8 32)))),(35,(.val (.val (.int .u8 124)))),(36,(.val (.val (.int .u8 32)))),(37,(.val (.val (.int .u8 59))))])),((some 32),.op (.bm (.convert 57 57 (.tmp 31)) 57)),aG 33 33 [32],aa 30 33,bQ 34 0 30,bQ 35 1 30,bQ 36 2 30,((some 4),.op (.alloc [(.emp 1),(.emp 1),(.emp 1),(.val (.int .i64 0))])),(none,.op (.store 4 (.tmp 4) (.tmp 34))),aa 5 35,aa 6 36]) <|
  .seq (al [aM 38 4 1,((some 39),.op (.bH 2 1 [(.val (.int .i64 0))] [(0,(.val (.val (.int .i64 0)))),(1,(.val (.val (.int .i64 0))))])),aG 40 15 [38,39],aa 37 40,bQ 41 0 37,bQ 42 1 37,aa 7 41,aa 8 42]) <|
  .seq (al [aM 44 4 4,((some 45),.op (.bH 4 1 [(.val (.int .i64 0))] [(0,(.val (.val (.int .i64 0)))),(1,(.val (.val (.int .i64 1)))),(2,(.val (.val (.int .i64 0)))),(3,(.val (.val (.int .i64 1))))])),aG 46 15 [44,45],aa 43 46,bQ 47 0 43,bQ 48 1 43,aa 9 47,aa 10 48]) <|
  .seq (al [aM 50 4 4,((some 51),.op (.bH 2 1 [(.val (.int .i64 0))] [(0,(.val (.val (.int .i64 0)))),(1,(.val (.val (.int .i64 0))))])),aG 52 15 [50,51],aa 49 52,bQ 53 0 49,bQ 54 1 49,aa 11 53,aa 12 54]) <|
  .seq (al [aM 56 4 4,((some 57),.op (.bH 2 1 [(.val (.int .i64 0))] [(0,(.val (.val (.int .i64 (-1))))),(1,(.val (.val (.int .i64 1))))])),aG 58 17 [56,57],aa 55 58,bQ 59 0 55,bQ 60 1 55,aa 13 59,aa 14 60]) <|
  .seq (al [aM 62 4 4,((some 63),.op (.bH 1 1 [(.val (.int .i64 0))] [(0,(.val (.val (.int .i64 (-1)))))])),aG 64 17 [62,63],aa 61 64,bQ 65 0 61,bQ 66 1 61,aa 15 65,aa 16 66]) <|
  .seq (al [aM 68 4 4,((some 69),.op (.bH 3 1 [(.val (.int .i64 0))] [(0,(.val (.val (.int .i64 0)))),(1,(.val (.val (.int .i64 1)))),(2,(.val (.val (.int .i64 0))))])),aG 70 20 [68,69],aa 67 70,bQ 71 0 67,bQ 72 1 67,aa 17 71,aa 18 72]) <|
  .seq (al [aM 74 4 4,((some 75),.op (.bH 1 1 [(.val (.int .i64 0))] [(0,(.val (.val (.int .i64 1))))])),aG 76 20 [74,75],aa 73 76,bQ 77 0 73,bQ 78 1 73,aa 19 77,aa 20 78]) <|
  .seq (al [aM 80 4 1,((some 81),.op (.bH 1 1 [(.val (.int .i64 0))] [(0,(.val (.val (.int .i64 1))))])),aG 82 15 [80,81],aa 79 82,bQ 83 0 79,bQ 84 1 79,aa 21 83,aa 22 84]) <|
  .seq (.region false [⟨none,[aa 85 7,aa 86 85]⟩,⟨(some (86,true)),[aa 87 9]⟩,⟨none,[br 88 86 87,aa 89 88]⟩,⟨(some (89,true)),[aa 90 11,bL 91 90]⟩,⟨none,[br 92 89 91,aa 93 92]⟩,⟨(some (93,true)),[aa 94 13]⟩,⟨none,[br 95 93 94,aa 96 95]⟩,⟨(some (96,true)),[aa 97 15,bL 98 97]⟩,⟨none,[br 99 96 98,aa 100 99]⟩,⟨(some (100,true)),[aa 101 17]⟩,⟨none,[br 102 100 101,aa 103 102]⟩,⟨(some (103,true)),[aa 104 19,bL 105 104]⟩,⟨none,[br 106 103 105,aa 107 106]⟩,⟨(some (107,true)),[aa 108 8,ay 109 .eql 108 0]⟩,⟨none,[br 110 107 109,aa 111 110]⟩,⟨(some (111,true)),[aa 112 10,ay 113 .eql 112 0]⟩,⟨none,[br 114 111 113,aa 115 114]⟩,⟨(some (115,true)),[aa 116 14,ay 117 .eql 116 0]⟩,⟨none,[br 118 115 117,aa 119 118]⟩,⟨(some (119,true)),[aa 120 18,ay 121 .eql 120 0]⟩,⟨none,[br 122 119 121,aa 123 122]⟩,⟨(some (123,true)),[aa 124 22,ay 125 .eql 124 1]⟩,⟨none,[br 126 123 125,aa 0 126]⟩]) <|
  .ret,
  [.tmp 0],127⟩
theorem pR:aX Tryz.prog 12 []=some lx:=by kernel_rfl
set_option maxHeartbeats 4000000 in
theorem zI (g1 g2:av) (k1:g1.Ok) (k2:g2.Ok) (s1:g1.Small) (s2:g2.Small) (h1:cx Tryz.prog 33 [tx wL] (j8 g1)) (h2:cx Tryz.prog 33 [tx xj] (j8 g2))
    (e1:fc g1 [0,0]=(true,0)) (e2:fc g2 [0,1,0,1]=(true,0)) (e3:fc g2 [0,0]=(false,0)) (e4:dy g2 [-1,1]=(true,0)) (e5:dy g2 [-1]=(false,0)) (e6:bY g2 [0,1,0]=(true,0)) (e7:bY g2 [1]=(false,0)) (e8:fc g1 [1]=(false,1)):aE Tryz.prog 12 [] (gb true):=by
  refine aE.val (by simp) fun H=>?_
  refine aD.of mixed pR ?_
  simp (disch:=omega) only [↓wr,↓reduceIte,wq,ai,ah,ak,ae,af,ag,aj,isNil,Nat.reduceEqDiff,Nat.reduceAdd,Nat.reduceLT,Nat.reduceLeDiff,Int.reduceNeg,Int.reduceToNat,reduceCtorEq,lx]
  intro n1 hn1
  try simp (disch:=omega) only [↓wr,↓reduceIte,wq,ai,ah,ak,ae,af,ag,aj,isNil,Nat.reduceEqDiff,Nat.reduceAdd,Nat.reduceLT,Nat.reduceLeDiff,Int.reduceNeg,Int.reduceToNat,reduceCtorEq]
  generalize t1:wL.map (fun x=>[gy x])=es1
  have t1':=t1
  simp only[wL,List.map_cons,List.map_nil] at t1'
  rw[t1']
  refine vp (id:=n1) (len:=16) Tryz.underlying57 Tryz.underlying5 rfl (by omega) (by simp only[View.set,if_true]; rfl) ?_
  simp (disch:=omega) only [↓wr,↓reduceIte,wq,ai,ah,ak,ae,af,ag,aj,isNil,Nat.reduceEqDiff,Nat.reduceAdd,Nat.reduceLT,Nat.reduceLeDiff,Int.reduceNeg,Int.reduceToNat,reduceCtorEq]
  refine az.zL h1 (by kernel_rfl) ⟨xE wL (by simp only[View.set,if_true,t1]),trivial⟩ ?_
  clear t1 t1' hn1
  generalize H.set n1 (bE.arr 1 es1)=H1
  clear H
  simp (disch:=omega) only [↓wr,↓reduceIte,wq,ai,ah,ak,ae,af,ag,aj,isNil,Nat.reduceEqDiff,Nat.reduceAdd,Nat.reduceLT,Nat.reduceLeDiff,Int.reduceNeg,Int.reduceToNat,reduceCtorEq,j8,ao,encS]
  intro n2 hn2
  try simp (disch:=omega) only [↓wr,↓reduceIte,wq,ai,ah,ak,ae,af,ag,aj,isNil,Nat.reduceEqDiff,Nat.reduceAdd,Nat.reduceLT,Nat.reduceLeDiff,Int.reduceNeg,Int.reduceToNat,reduceCtorEq]
  intro n3 hn3
  have d32:=(bJ hn3 bM).1
  try simp (disch:=omega) only [↓wr,↓reduceIte,wq,ai,ah,ak,ae,af,ag,aj,isNil,Nat.reduceEqDiff,Nat.reduceAdd,Nat.reduceLT,Nat.reduceLeDiff,Int.reduceNeg,Int.reduceToNat,reduceCtorEq]
  generalize t1:xj.map (fun x=>[gy x])=es2
  have t1':=t1
  simp only[xj,List.map_cons,List.map_nil] at t1'
  rw[t1']
  refine vp (id:=n3) (len:=38) Tryz.underlying57 Tryz.underlying5 rfl (by omega) (by simp only[View.set,if_true]; rfl) ?_
  simp (disch:=omega) only [↓wr,↓reduceIte,wq,ai,ah,ak,ae,af,ag,aj,isNil,Nat.reduceEqDiff,Nat.reduceAdd,Nat.reduceLT,Nat.reduceLeDiff,Int.reduceNeg,Int.reduceToNat,reduceCtorEq]
  refine az.zL h2 (by kernel_rfl) ⟨xE xj (by simp only[View.set,if_true,t1]),trivial⟩ ?_
  clear t1 t1'
  simp (disch:=omega) only [↓wr,↓reduceIte,wq,ai,ah,ak,ae,af,ag,aj,isNil,Nat.reduceEqDiff,Nat.reduceAdd,Nat.reduceLT,Nat.reduceLeDiff,Int.reduceNeg,Int.reduceToNat,reduceCtorEq,j8,ao,encS]
  intro n4 hn4
  have d43:=(bJ hn4 bM).1
  have d42:=(bJ (bJ hn4 bM).2 bM).1
  try simp (disch:=omega) only [↓wr,↓reduceIte,wq,ai,ah,ak,ae,af,ag,aj,isNil,Nat.reduceEqDiff,Nat.reduceAdd,Nat.reduceLT,Nat.reduceLeDiff,Int.reduceNeg,Int.reduceToNat,reduceCtorEq,d32,d43,d42,d32.symm,d43.symm,d42.symm]
  intro m hm
  obtain ⟨a1,hm⟩:=bJ hm bM
  obtain ⟨_,hm⟩:=bJ hm bM
  obtain ⟨_,hm⟩:=bJ hm bM
  obtain ⟨a4,hm⟩:=bJ hm bM
  have hc:=nZ g1 k1 s1 [0,0] (by unfold aP; decide) (fun x hx=>by simp at hx; (try rcases hx with rfl | rfl | rfl | rfl); all_goals (try rcases hx with rfl | rfl | rfl); all_goals (try rcases hx with rfl | rfl); all_goals (try subst hx); all_goals (unfold bF; decide))
  rw[e1] at hc
  refine az.mw (fun H=>H n2=.arr 4 [ao g1]∧H n4=.arr 4 [ao g2]) hc (by kernel_rfl) (ep _) ⟨bW.tree (bV _ (bK g1)),fv (l:=[0,0]) (by simp[View.set]) rfl,trivial⟩ (by simp[View.set,a1.symm,a4.symm,d32,d42,d43,d32.symm,d42.symm,d43.symm,ao,encS]) ?_
  clear hm a1 a4 hn2 hn3 hn4
  rintro H2 ⟨f2,f4⟩
  simp only[ao,encS] at f2 f4
  simp (disch:=omega) only [↓wr,↓reduceIte,wq,ai,ah,ak,ae,af,ag,aj,isNil,Nat.reduceEqDiff,Nat.reduceAdd,Nat.reduceLT,Nat.reduceLeDiff,Int.reduceNeg,Int.reduceToNat,reduceCtorEq,f2,f4,dn]
  intro m hm
  have a4:m≠n2:=fun e=>by rw[e,f2] at hm; simp at hm
  have a1:m≠n4:=fun e=>by rw[e,f4] at hm; simp at hm
  try simp (disch:=omega) only [↓wr,↓reduceIte,wq,ai,ah,ak,ae,af,ag,aj,isNil,Nat.reduceEqDiff,Nat.reduceAdd,Nat.reduceLT,Nat.reduceLeDiff,Int.reduceNeg,Int.reduceToNat,reduceCtorEq,f2,f4]
  have hc:=nZ g2 k2 s2 [0,1,0,1] (by unfold aP; decide) (fun x hx=>by simp at hx; (try rcases hx with rfl | rfl | rfl | rfl); all_goals (try rcases hx with rfl | rfl | rfl); all_goals (try rcases hx with rfl | rfl); all_goals (try subst hx); all_goals (unfold bF; decide))
  rw[e2] at hc
  refine az.mw (fun H=>H n2=.arr 4 [ao g1]∧H n4=.arr 4 [ao g2]) hc (by kernel_rfl) (ep _) ⟨bW.tree (bV _ (bK g2)),fv (l:=[0,1,0,1]) (by simp[View.set]) rfl,trivial⟩ (by simp[View.set,a1.symm,a4.symm,d32,d42,d43,d32.symm,d42.symm,d43.symm,ao,encS,f2,f4]) ?_
  clear hm a1 a4 f2 f4 H2
  rintro H2 ⟨f2,f4⟩
  simp only[ao,encS] at f2 f4
  simp (disch:=omega) only [↓wr,↓reduceIte,wq,ai,ah,ak,ae,af,ag,aj,isNil,Nat.reduceEqDiff,Nat.reduceAdd,Nat.reduceLT,Nat.reduceLeDiff,Int.reduceNeg,Int.reduceToNat,reduceCtorEq,f2,f4,dn]
  intro m hm
  have a4:m≠n2:=fun e=>by rw[e,f2] at hm; simp at hm
  have a1:m≠n4:=fun e=>by rw[e,f4] at hm; simp at hm
  try simp (disch:=omega) only [↓wr,↓reduceIte,wq,ai,ah,ak,ae,af,ag,aj,isNil,Nat.reduceEqDiff,Nat.reduceAdd,Nat.reduceLT,Nat.reduceLeDiff,Int.reduceNeg,Int.reduceToNat,reduceCtorEq,f2,f4]
  have hc:=nZ g2 k2 s2 [0,0] (by unfold aP; decide) (fun x hx=>by simp at hx; (try rcases hx with rfl | rfl | rfl | rfl); all_goals (try rcases hx with rfl | rfl | rfl); all_goals (try rcases hx with rfl | rfl); all_goals (try subst hx); all_goals (unfold bF; decide))
  rw[e3] at hc
  refine az.mw (fun H=>H n2=.arr 4 [ao g1]∧H n4=.arr 4 [ao g2]) hc (by kernel_rfl) (ep _) ⟨bW.tree (bV _ (bK g2)),fv (l:=[0,0]) (by simp[View.set]) rfl,trivial⟩ (by simp[View.set,a1.symm,a4.symm,d32,d42,d43,d32.symm,d42.symm,d43.symm,ao,encS,f2,f4]) ?_
  clear hm a1 a4 f2 f4 H2
  rintro H2 ⟨f2,f4⟩
  simp only[ao,encS] at f2 f4
  simp (disch:=omega) only [↓wr,↓reduceIte,wq,ai,ah,ak,ae,af,ag,aj,isNil,Nat.reduceEqDiff,Nat.reduceAdd,Nat.reduceLT,Nat.reduceLeDiff,Int.reduceNeg,Int.reduceToNat,reduceCtorEq,f2,f4,dn]
  intro m hm
  have a4:m≠n2:=fun e=>by rw[e,f2] at hm; simp at hm
  have a1:m≠n4:=fun e=>by rw[e,f4] at hm; simp at hm
  try simp (disch:=omega) only [↓wr,↓reduceIte,wq,ai,ah,ak,ae,af,ag,aj,isNil,Nat.reduceEqDiff,Nat.reduceAdd,Nat.reduceLT,Nat.reduceLeDiff,Int.reduceNeg,Int.reduceToNat,reduceCtorEq,f2,f4]
  have hc:=oV g2 k2 s2 [-1,1] (by unfold aP; decide) (fun x hx=>by simp at hx; (try rcases hx with rfl | rfl | rfl | rfl); all_goals (try rcases hx with rfl | rfl | rfl); all_goals (try rcases hx with rfl | rfl); all_goals (try subst hx); all_goals (unfold bF; decide))
  rw[e4] at hc
  refine az.mw (fun H=>H n2=.arr 4 [ao g1]∧H n4=.arr 4 [ao g2]) hc (by kernel_rfl) (ep _) ⟨bW.tree (bV _ (bK g2)),fv (l:=[-1,1]) (by simp[View.set]) rfl,trivial⟩ (by simp[View.set,a1.symm,a4.symm,d32,d42,d43,d32.symm,d42.symm,d43.symm,ao,encS,f2,f4]) ?_
  clear hm a1 a4 f2 f4 H2
  rintro H2 ⟨f2,f4⟩
  simp only[ao,encS] at f2 f4
  simp (disch:=omega) only [↓wr,↓reduceIte,wq,ai,ah,ak,ae,af,ag,aj,isNil,Nat.reduceEqDiff,Nat.reduceAdd,Nat.reduceLT,Nat.reduceLeDiff,Int.reduceNeg,Int.reduceToNat,reduceCtorEq,f2,f4,dn]
  intro m hm
  have a4:m≠n2:=fun e=>by rw[e,f2] at hm; simp at hm
  have a1:m≠n4:=fun e=>by rw[e,f4] at hm; simp at hm
  try simp (disch:=omega) only [↓wr,↓reduceIte,wq,ai,ah,ak,ae,af,ag,aj,isNil,Nat.reduceEqDiff,Nat.reduceAdd,Nat.reduceLT,Nat.reduceLeDiff,Int.reduceNeg,Int.reduceToNat,reduceCtorEq,f2,f4]
  have hc:=oV g2 k2 s2 [-1] (by unfold aP; decide) (fun x hx=>by simp at hx; (try rcases hx with rfl | rfl | rfl | rfl); all_goals (try rcases hx with rfl | rfl | rfl); all_goals (try rcases hx with rfl | rfl); all_goals (try subst hx); all_goals (unfold bF; decide))
  rw[e5] at hc
  refine az.mw (fun H=>H n2=.arr 4 [ao g1]∧H n4=.arr 4 [ao g2]) hc (by kernel_rfl) (ep _) ⟨bW.tree (bV _ (bK g2)),fv (l:=[-1]) (by simp[View.set]) rfl,trivial⟩ (by simp[View.set,a1.symm,a4.symm,d32,d42,d43,d32.symm,d42.symm,d43.symm,ao,encS,f2,f4]) ?_
  clear hm a1 a4 f2 f4 H2
  rintro H2 ⟨f2,f4⟩
  simp only[ao,encS] at f2 f4
  simp (disch:=omega) only [↓wr,↓reduceIte,wq,ai,ah,ak,ae,af,ag,aj,isNil,Nat.reduceEqDiff,Nat.reduceAdd,Nat.reduceLT,Nat.reduceLeDiff,Int.reduceNeg,Int.reduceToNat,reduceCtorEq,f2,f4,dn]
  intro m hm
  have a4:m≠n2:=fun e=>by rw[e,f2] at hm; simp at hm
  have a1:m≠n4:=fun e=>by rw[e,f4] at hm; simp at hm
  try simp (disch:=omega) only [↓wr,↓reduceIte,wq,ai,ah,ak,ae,af,ag,aj,isNil,Nat.reduceEqDiff,Nat.reduceAdd,Nat.reduceLT,Nat.reduceLeDiff,Int.reduceNeg,Int.reduceToNat,reduceCtorEq,f2,f4]
  have hc:=kU g2 k2 s2 [0,1,0] (by unfold aP; decide) (fun x hx=>by simp at hx; (try rcases hx with rfl | rfl | rfl | rfl); all_goals (try rcases hx with rfl | rfl | rfl); all_goals (try rcases hx with rfl | rfl); all_goals (try subst hx); all_goals (unfold bF; decide))
  rw[e6] at hc
  refine az.mw (fun H=>H n2=.arr 4 [ao g1]∧H n4=.arr 4 [ao g2]) hc (by kernel_rfl) (ep _) ⟨bW.tree (bV _ (bK g2)),fv (l:=[0,1,0]) (by simp[View.set]) rfl,trivial⟩ (by simp[View.set,a1.symm,a4.symm,d32,d42,d43,d32.symm,d42.symm,d43.symm,ao,encS,f2,f4]) ?_
  clear hm a1 a4 f2 f4 H2
  rintro H2 ⟨f2,f4⟩
  simp only[ao,encS] at f2 f4
  simp (disch:=omega) only [↓wr,↓reduceIte,wq,ai,ah,ak,ae,af,ag,aj,isNil,Nat.reduceEqDiff,Nat.reduceAdd,Nat.reduceLT,Nat.reduceLeDiff,Int.reduceNeg,Int.reduceToNat,reduceCtorEq,f2,f4,dn]
  intro m hm
  have a4:m≠n2:=fun e=>by rw[e,f2] at hm; simp at hm
  have a1:m≠n4:=fun e=>by rw[e,f4] at hm; simp at hm
  try simp (disch:=omega) only [↓wr,↓reduceIte,wq,ai,ah,ak,ae,af,ag,aj,isNil,Nat.reduceEqDiff,Nat.reduceAdd,Nat.reduceLT,Nat.reduceLeDiff,Int.reduceNeg,Int.reduceToNat,reduceCtorEq,f2,f4]
  have hc:=kU g2 k2 s2 [1] (by unfold aP; decide) (fun x hx=>by simp at hx; (try rcases hx with rfl | rfl | rfl | rfl); all_goals (try rcases hx with rfl | rfl | rfl); all_goals (try rcases hx with rfl | rfl); all_goals (try subst hx); all_goals (unfold bF; decide))
  rw[e7] at hc
  refine az.mw (fun H=>H n2=.arr 4 [ao g1]∧H n4=.arr 4 [ao g2]) hc (by kernel_rfl) (ep _) ⟨bW.tree (bV _ (bK g2)),fv (l:=[1]) (by simp[View.set]) rfl,trivial⟩ (by simp[View.set,a1.symm,a4.symm,d32,d42,d43,d32.symm,d42.symm,d43.symm,ao,encS,f2,f4]) ?_
  clear hm a1 a4 f2 f4 H2
  rintro H2 ⟨f2,f4⟩
  simp only[ao,encS] at f2 f4
  simp (disch:=omega) only [↓wr,↓reduceIte,wq,ai,ah,ak,ae,af,ag,aj,isNil,Nat.reduceEqDiff,Nat.reduceAdd,Nat.reduceLT,Nat.reduceLeDiff,Int.reduceNeg,Int.reduceToNat,reduceCtorEq,f2,f4,dn]
  intro m hm
  have a4:m≠n2:=fun e=>by rw[e,f2] at hm; simp at hm
  have a1:m≠n4:=fun e=>by rw[e,f4] at hm; simp at hm
  try simp (disch:=omega) only [↓wr,↓reduceIte,wq,ai,ah,ak,ae,af,ag,aj,isNil,Nat.reduceEqDiff,Nat.reduceAdd,Nat.reduceLT,Nat.reduceLeDiff,Int.reduceNeg,Int.reduceToNat,reduceCtorEq,f2,f4]
  have hc:=nZ g1 k1 s1 [1] (by unfold aP; decide) (fun x hx=>by simp at hx; (try rcases hx with rfl | rfl | rfl | rfl); all_goals (try rcases hx with rfl | rfl | rfl); all_goals (try rcases hx with rfl | rfl); all_goals (try subst hx); all_goals (unfold bF; decide))
  rw[e8] at hc
  refine az.mw (fun H=>H n2=.arr 4 [ao g1]∧H n4=.arr 4 [ao g2]) hc (by kernel_rfl) (ep _) ⟨bW.tree (bV _ (bK g1)),fv (l:=[1]) (by simp[View.set]) rfl,trivial⟩ (by simp[View.set,a1.symm,a4.symm,d32,d42,d43,d32.symm,d42.symm,d43.symm,ao,encS,f2,f4]) ?_
  clear hm a1 a4 f2 f4 H2
  rintro H2 ⟨f2,f4⟩
  simp only[ao,encS] at f2 f4
  simp (disch:=omega) only [↓wr,↓reduceIte,wq,ai,ah,ak,ae,af,ag,aj,isNil,Nat.reduceEqDiff,Nat.reduceAdd,Nat.reduceLT,Nat.reduceLeDiff,Int.reduceNeg,Int.reduceToNat,reduceCtorEq,f2,f4,dn]
  repeat' (first | (refine aq.eq (fun _=>?_) (fun hc=>absurd rfl hc)) | (refine aq.split (fun _=>?_) (fun e=>absurd e (by decide))) | simp (disch:=omega) only [↓wr,↓reduceIte,wq,ai,ah,ak,ae,af,ag,aj,isNil,Nat.reduceEqDiff,Nat.reduceAdd,Nat.reduceLT,Nat.reduceLeDiff,Int.reduceNeg,Int.reduceToNat,reduceCtorEq])
  rfl
theorem nP:aE Tryz.prog 12 [] (gb true):=zI fF c6 G4 GJ BU B5 JS JM Ki Kt Ko Kp Kr Kl Ku Kq
end Gv
set_option linter.unusedSimpArgs false
set_option maxRecDepth 100000
namespace Gv
open Go Go.Proofs
def mX:SF:=⟨.seq (al [((some 2),.op (.bu (.val (.emp 1))))]) <|
  .seq (al [((some 3),.op (.bu (.val (.emp 2)))),aa 4 0,((some 5),.op (.app 1 8 (.tmp 3) (.tmp 4))),aa 2 5]) <|
  .ret,
  [.tmp 2],6⟩
theorem qw:aX Tryz.prog 14 []=some mX:=by kernel_rfl
theorem yS (l:List Int) (hl:l.length≤100000) (H:View):aD Tryz.prog 14 [encI l] H fun r H'=>bp H' r 1 (bI l)∧dJ H H' r:=by
  refine aD.of mixed qw ?_
  simp (disch:=omega) only [↓wr,↓reduceIte,wq,ai,ah,ak,ae,af,ag,aj,isNil,Nat.reduceEqDiff,Nat.reduceAdd,Nat.reduceLT,Nat.reduceLeDiff,Int.reduceNeg,Int.reduceToNat,reduceCtorEq,mX,encI]
  refine yQ (H:=H) .nil (by simp[aS]) (by unfold aI; simp; omega) (by unfold aI; simp; omega) ?_
  intro u' H' ho hl'
  simp (disch:=omega) only [↓wr,↓reduceIte,wq,ai,ah,ak,ae,af,ag,aj,isNil,Nat.reduceEqDiff,Nat.reduceAdd,Nat.reduceLT,Nat.reduceLeDiff,Int.reduceNeg,Int.reduceToNat,reduceCtorEq]
  exact ⟨ho,fun id hid=>hl' id hid (by simp[owner])⟩
structure av.Kv (g:av):Prop where
  aC:g.aC.length≤40
  au:g.au.length≤40
  rules:g.rules.length≤60
  right:∀ r∈g.rules,r.right.length≤20
end Gv
set_option linter.unusedSimpArgs false
set_option maxRecDepth 100000
namespace Gv
open Go Go.Proofs
theorem bW.I0 {H:View} {u:V} {l:List Int} (h:bp H u 1 (bI l)):bW H u (encI l):=bW.own h fun e he v hv=>by
  obtain ⟨x,_,rfl⟩:=List.mem_map.1 he
  simp at hv; subst hv; exact .val _
def gN:SF:=⟨.seq (al [cE 2 0,aU 4 false]) <|
  .seq (.seq (al [aG 14 12 [],bL 15 14]) <|
  .cond (.tmp 15) (.seq (al [aU 4 false]) <|
  .ret) (.skip)) <|
  .seq (.seq (.region false [⟨none,[aM 16 4 2,aG 17 13 [16],aa 18 17]⟩,⟨(some (18,false)),[aa 19 1,aL 20 19,ay 21 .gtr 20 10,aa 22 21]⟩,⟨(some (22,true)),[aa 23 1,aL 24 23,ay 25 .lss 24 61]⟩,⟨(some (18,false)),[br 26 22 25]⟩,⟨none,[bt 27 18 26,aa 28 27]⟩,⟨(some (28,false)),[aa 29 1,aL 30 29,ay 31 .gtr 30 70]⟩,⟨none,[bt 32 28 31]⟩]) <|
  .cond (.tmp 32) (.seq (al [aU 4 true]) <|
  .ret) (.skip)) <|
  .seq (al [aa 33 1,aG 34 14 [33],aa 5 34]) <|
  .seq (al [aM 36 4 2,aa 37 5,aG 38 15 [36,37],aa 35 38,bQ 39 0 35,bQ 40 1 35,aa 6 39,aa 7 40]) <|
  .seq (al [aM 42 4 2,aa 43 1,aG 44 16 [42,43],aa 41 44,bQ 45 0 41,bQ 46 1 41,aa 8 45,aa 9 46]) <|
  .seq (al [aM 48 4 2,aa 49 5,aG 50 17 [48,49],aa 47 50,bQ 51 0 47,bQ 52 1 47,aa 10 51,aa 11 52]) <|
  .seq (al [aM 54 4 2,aa 55 1,aG 56 18 [54,55],aa 53 56,bQ 57 0 53,bQ 58 1 53,aa 12 57,aa 13 58]) <|
  .seq (.region false [⟨none,[aa 59 6,aa 60 8,((some 61),.op (.beq true (.tmp 59) (.tmp 60))),aa 62 61]⟩,⟨(some (62,true)),[aa 63 7,aa 64 9,bb 65 .eql 63 64]⟩,⟨none,[br 66 62 65,aa 67 66]⟩,⟨(some (67,true)),[aa 68 10,aa 69 12,((some 70),.op (.beq true (.tmp 68) (.tmp 69)))]⟩,⟨none,[br 71 67 70,aa 72 71]⟩,⟨(some (72,true)),[aa 73 11,aa 74 13,bb 75 .eql 73 74]⟩,⟨none,[br 76 72 75,aa 77 76]⟩,⟨(some (77,true)),[aa 78 5,aa 79 1,aG 80 19 [78,79]]⟩,⟨none,[br 81 77 80,aa 4 81]⟩]) <|
  .ret,
  [.tmp 4],82⟩
theorem lR:aX Tryz.prog 3 [2]=some gN:=by kernel_rfl
def gv:SF:=⟨.seq (al [cE 2 0,aU 4 false]) <|
  .seq (.seq (al [aG 9 12 [],bL 10 9]) <|
  .cond (.tmp 10) (.seq (al [aU 4 false]) <|
  .ret) (.skip)) <|
  .seq (.seq (.region false [⟨none,[aM 11 4 2,aG 12 13 [11],aa 13 12]⟩,⟨(some (13,false)),[aa 14 1,aL 15 14,ay 16 .gtr 15 8,aa 17 16]⟩,⟨(some (17,true)),[aa 18 1,aL 19 18,ay 20 .lss 19 61]⟩,⟨(some (13,false)),[br 21 17 20]⟩,⟨none,[bt 22 13 21,aa 23 22]⟩,⟨(some (23,false)),[aa 24 1,aL 25 24,ay 26 .gtr 25 70]⟩,⟨none,[bt 27 23 26]⟩]) <|
  .cond (.tmp 27) (.seq (al [aU 4 true]) <|
  .ret) (.skip)) <|
  .seq (al [aM 29 4 2,aa 30 1,aG 31 20 [29,30],aa 28 31,bQ 32 0 28,bQ 33 1 28,aa 5 32,aa 6 33]) <|
  .seq (al [aM 35 4 2,aa 36 1,aG 37 21 [35,36],aa 34 37,bQ 38 0 34,bQ 39 1 34,aa 7 38,aa 8 39]) <|
  .seq (.region false [⟨none,[aa 40 5,aa 41 7,((some 42),.op (.beq true (.tmp 40) (.tmp 41))),aa 43 42]⟩,⟨(some (43,true)),[aa 44 6,aa 45 8,bb 46 .eql 44 45]⟩,⟨none,[br 47 43 46,aa 4 47]⟩]) <|
  .ret,
  [.tmp 4],48⟩
theorem k5:aX Tryz.prog 4 [2]=some gv:=by kernel_rfl
set_option maxHeartbeats 2000000 in
theorem xU (g:av) (hg:g.Ok) (l:List Int) (hl:aP l) (hn:∀ x∈l,bF x):aE Tryz.prog 3 [.agg (ao g),encI l] (gb true):=by
  refine aE.val (fW g l) fun H=>?_
  refine aD.of mixed lR ?_
  have hl':=hl
  unfold aP at hl
  simp (disch:=omega) only [↓wr,↓reduceIte,wq,ai,ah,ak,ae,af,ag,aj,isNil,Nat.reduceEqDiff,Nat.reduceAdd,Nat.reduceLT,Nat.reduceLeDiff,Int.reduceNeg,Int.reduceToNat,reduceCtorEq,gN,ao,encS]
  refine az.pure nP (by kernel_rfl) ?_
  simp (disch:=omega) only [↓wr,↓reduceIte,wq,ai,ah,ak,ae,af,ag,aj,isNil,Nat.reduceEqDiff,Nat.reduceAdd,Nat.reduceLT,Nat.reduceLeDiff,Int.reduceNeg,Int.reduceToNat,reduceCtorEq,ao,encS]
  refine az.pure (rA g) (by kernel_rfl) ?_
  simp (disch:=omega) only [↓wr,↓reduceIte,wq,ai,ah,ak,ae,af,ag,aj,isNil,Nat.reduceEqDiff,Nat.reduceAdd,Nat.reduceLT,Nat.reduceLeDiff,Int.reduceNeg,Int.reduceToNat,reduceCtorEq]
  refine aq.split (fun e=>?_) (fun e=>?_)
  · simp (disch:=omega) only [↓wr,↓reduceIte,wq,ai,ah,ak,ae,af,ag,aj,isNil,Nat.reduceEqDiff,Nat.reduceAdd,Nat.reduceLT,Nat.reduceLeDiff,Int.reduceNeg,Int.reduceToNat,reduceCtorEq]
  · have hs:g.Small:=l9 e
    have hy:∃ a b,fc g l=(a,b):=⟨_,_,rfl⟩
    have hz:∃ a b,dy g l=(a,b):=⟨_,_,rfl⟩
    obtain ⟨ya,yb,hy⟩:=hy
    obtain ⟨za,zb,hz⟩:=hz
    have p1:=nZ g hg hs l hl' hn
    have p2:=GM g hg l hl' hn
    have p3:=oV g hg hs l hl' hn
    have p4:=yP g hg l hl' hn
    have pi:=IA l l hl'
    rw[hy] at p1 p2
    rw[hz] at p3 p4
    simp only[ao,encS,encI] at p1 p2 p3 p4 pi
    repeat' (first | (refine aq.dec (fun _=>?_) (fun _=>?_)) | (refine aq.eq (fun _=>?_) (fun _=>?_)) | (refine aq.ne (fun _=>?_) (fun _=>?_)) | (refine aq.split (fun _=>?_) (fun _=>?_)) | (simp (disch:=omega) only [↓wr,↓reduceIte,wq,ai,ah,ak,ae,af,ag,aj,isNil,Nat.reduceEqDiff,Nat.reduceAdd,Nat.reduceLT,Nat.reduceLeDiff,Int.reduceNeg,Int.reduceToNat,reduceCtorEq,encI]))
    all_goals (refine az.ez ((yS l (by omega) _).mono ?_))
    all_goals (
      rintro v H1 ⟨hv,_⟩
      have cv:=hv.cells
      have kv:=hv.ld
      have lg:bW H1 (.agg [.bc (g.aC.map ch),.bc (g.au.map fun s=>[gs s]),.bc (g.rules.map aJ),gi g.start]) (.agg [.bc (g.aC.map ch),.bc (g.au.map fun s=>[gs s]),.bc (g.rules.map aJ),gi g.start]):=bW.tree (bV _ (bK g))
      have lv:=bW.I0 hv
      simp (disch:=omega) only [↓wr,↓reduceIte,wq,ai,ah,ak,ae,af,ag,aj,isNil,Nat.reduceEqDiff,Nat.reduceAdd,Nat.reduceLT,Nat.reduceLeDiff,Int.reduceNeg,Int.reduceToNat,reduceCtorEq,cv,kv,encI]
      refine az.wa p1 (by kernel_rfl) (ep _) ⟨lg,lv,trivial⟩ ?_
      simp (disch:=omega) only [↓wr,↓reduceIte,wq,ai,ah,ak,ae,af,ag,aj,isNil,Nat.reduceEqDiff,Nat.reduceAdd,Nat.reduceLT,Nat.reduceLeDiff,Int.reduceNeg,Int.reduceToNat,reduceCtorEq,dn,cv,kv,encI]
      refine az.pure p2 (by kernel_rfl) ?_
      simp (disch:=omega) only [↓wr,↓reduceIte,wq,ai,ah,ak,ae,af,ag,aj,isNil,Nat.reduceEqDiff,Nat.reduceAdd,Nat.reduceLT,Nat.reduceLeDiff,Int.reduceNeg,Int.reduceToNat,reduceCtorEq,dn,cv,kv,encI]
      refine az.wa p3 (by kernel_rfl) (ep _) ⟨lg,lv,trivial⟩ ?_
      simp (disch:=omega) only [↓wr,↓reduceIte,wq,ai,ah,ak,ae,af,ag,aj,isNil,Nat.reduceEqDiff,Nat.reduceAdd,Nat.reduceLT,Nat.reduceLeDiff,Int.reduceNeg,Int.reduceToNat,reduceCtorEq,dn,cv,kv,encI]
      refine az.pure p4 (by kernel_rfl) ?_
      simp (disch:=omega) only [↓wr,↓reduceIte,wq,ai,ah,ak,ae,af,ag,aj,isNil,Nat.reduceEqDiff,Nat.reduceAdd,Nat.reduceLT,Nat.reduceLeDiff,Int.reduceNeg,Int.reduceToNat,reduceCtorEq,dn,cv,kv,encI]
      refine aq.split (fun _=>?_) (fun e=>absurd e (by simp))
      simp (disch:=omega) only [↓wr,↓reduceIte,wq,ai,ah,ak,ae,af,ag,aj,isNil,Nat.reduceEqDiff,Nat.reduceAdd,Nat.reduceLT,Nat.reduceLeDiff,Int.reduceNeg,Int.reduceToNat,reduceCtorEq,cv,kv]
      refine aq.eq (fun _=>?_) (fun hc=>absurd rfl hc)
      simp (disch:=omega) only [↓wr,↓reduceIte,wq,ai,ah,ak,ae,af,ag,aj,isNil,Nat.reduceEqDiff,Nat.reduceAdd,Nat.reduceLT,Nat.reduceLeDiff,Int.reduceNeg,Int.reduceToNat,reduceCtorEq,cv,kv]
      refine aq.split (fun _=>?_) (fun e=>absurd e (by simp))
      simp (disch:=omega) only [↓wr,↓reduceIte,wq,ai,ah,ak,ae,af,ag,aj,isNil,Nat.reduceEqDiff,Nat.reduceAdd,Nat.reduceLT,Nat.reduceLeDiff,Int.reduceNeg,Int.reduceToNat,reduceCtorEq,cv,kv]
      refine aq.eq (fun _=>?_) (fun hc=>absurd rfl hc)
      simp (disch:=omega) only [↓wr,↓reduceIte,wq,ai,ah,ak,ae,af,ag,aj,isNil,Nat.reduceEqDiff,Nat.reduceAdd,Nat.reduceLT,Nat.reduceLeDiff,Int.reduceNeg,Int.reduceToNat,reduceCtorEq,cv,kv,encI]
      refine az.wa pi (by kernel_rfl) (.val _) ⟨lv,bW.tree (cz l),trivial⟩ ?_
      simp (disch:=omega) only [↓wr,↓reduceIte,wq,ai,ah,ak,ae,af,ag,aj,isNil,Nat.reduceEqDiff,Nat.reduceAdd,Nat.reduceLT,Nat.reduceLeDiff,Int.reduceNeg,Int.reduceToNat,reduceCtorEq]
      simp
      )
set_option maxHeartbeats 2000000 in
theorem wU (g:av) (hg:g.Ok) (l:List Int) (hl:aP l) (hn:∀ x∈l,bF x):aE Tryz.prog 4 [.agg (ao g),encI l] (gb true):=by
  refine aE.val (fW g l) fun H=>?_
  refine aD.of mixed k5 ?_
  have hl':=hl
  unfold aP at hl
  simp (disch:=omega) only [↓wr,↓reduceIte,wq,ai,ah,ak,ae,af,ag,aj,isNil,Nat.reduceEqDiff,Nat.reduceAdd,Nat.reduceLT,Nat.reduceLeDiff,Int.reduceNeg,Int.reduceToNat,reduceCtorEq,gv,ao,encS]
  refine az.pure nP (by kernel_rfl) ?_
  simp (disch:=omega) only [↓wr,↓reduceIte,wq,ai,ah,ak,ae,af,ag,aj,isNil,Nat.reduceEqDiff,Nat.reduceAdd,Nat.reduceLT,Nat.reduceLeDiff,Int.reduceNeg,Int.reduceToNat,reduceCtorEq,ao,encS]
  refine az.pure (rA g) (by kernel_rfl) ?_
  simp (disch:=omega) only [↓wr,↓reduceIte,wq,ai,ah,ak,ae,af,ag,aj,isNil,Nat.reduceEqDiff,Nat.reduceAdd,Nat.reduceLT,Nat.reduceLeDiff,Int.reduceNeg,Int.reduceToNat,reduceCtorEq]
  refine aq.split (fun e=>?_) (fun e=>?_)
  · simp (disch:=omega) only [↓wr,↓reduceIte,wq,ai,ah,ak,ae,af,ag,aj,isNil,Nat.reduceEqDiff,Nat.reduceAdd,Nat.reduceLT,Nat.reduceLeDiff,Int.reduceNeg,Int.reduceToNat,reduceCtorEq]
  · have hs:g.Small:=l9 e
    have hy:∃ a b,bY g l=(a,b):=⟨_,_,rfl⟩
    obtain ⟨ya,yb,hy⟩:=hy
    have p1:=kU g hg hs l hl' hn
    have p2:=B6 g hg l hl' hn
    rw[hy] at p1 p2
    simp only[ao,encS,encI] at p1 p2
    repeat' (first | (refine aq.dec (fun _=>?_) (fun _=>?_)) | (refine aq.eq (fun _=>?_) (fun _=>?_)) | (refine aq.ne (fun _=>?_) (fun _=>?_)) | (refine aq.split (fun _=>?_) (fun _=>?_)) | (simp (disch:=omega) only [↓wr,↓reduceIte,wq,ai,ah,ak,ae,af,ag,aj,isNil,Nat.reduceEqDiff,Nat.reduceAdd,Nat.reduceLT,Nat.reduceLeDiff,Int.reduceNeg,Int.reduceToNat,reduceCtorEq,encI]))
    all_goals (
      refine az.pure p1 (by kernel_rfl) ?_
      simp (disch:=omega) only [↓wr,↓reduceIte,wq,ai,ah,ak,ae,af,ag,aj,isNil,Nat.reduceEqDiff,Nat.reduceAdd,Nat.reduceLT,Nat.reduceLeDiff,Int.reduceNeg,Int.reduceToNat,reduceCtorEq,dn,encI]
      refine az.pure p2 (by kernel_rfl) ?_
      simp (disch:=omega) only [↓wr,↓reduceIte,wq,ai,ah,ak,ae,af,ag,aj,isNil,Nat.reduceEqDiff,Nat.reduceAdd,Nat.reduceLT,Nat.reduceLeDiff,Int.reduceNeg,Int.reduceToNat,reduceCtorEq,dn]
      refine aq.split (fun _=>?_) (fun e=>absurd e (by simp))
      simp (disch:=omega) only [↓wr,↓reduceIte,wq,ai,ah,ak,ae,af,ag,aj,isNil,Nat.reduceEqDiff,Nat.reduceAdd,Nat.reduceLT,Nat.reduceLeDiff,Int.reduceNeg,Int.reduceToNat,reduceCtorEq]
      simp)
end Gv
set_option linter.unusedSimpArgs false
namespace Gv
open Go Go.Proofs
theorem CY {g:av} (hr:aR g=true) {p l:List Int} {i j:Nat} (h:Sp g p l i j):cg l (aw g true) true=true:=by
  induction h with
  | nil=>rfl
  | term s l i j h0 _ _ ih =>
    simp only[cg,List.all_cons,Bool.and_eq_true] at ih ⊢
    rw[if_pos h0]
    exact ⟨rfl,ih⟩
  | ca s l R i k j h0 hR hl _ _ ih1 ih2 =>
    have g1:=fM hr hR ih1
    rw[hl] at g1
    simp only[cg,List.all_cons,Bool.and_eq_true] at ih2 ⊢
    rw[if_neg (by omega)]
    exact ⟨g1,ih2⟩
section
variable {g r:av} {p q:List Bool} {o:List Int}
theorem dk.sp (h:dk g p q o r) {w l:List Int} {i j:Nat} (hs:Sp g w l i j):(∀ s∈l,s < 0→-1 - s∈o)→Sp r w (l.map fun s=>if s < 0 then -1 - aW o (-1 - s) else s) i j:=by
  induction hs with
  | nil=>exact fun _=>.nil _
  | term s l i j h0 hf _ ih =>
    intro hl
    rw[List.map_cons,if_neg (by omega)]
    exact .term s _ i j h0 hf (ih fun s hs=>hl s (by simp[hs]))
  | ca s l R i k j h0 hR hle h1 _ ih1 ih2 =>
    intro hl
    have hso:=hl s (by simp) h0
    obtain ⟨R1,hR1,hk1,e1⟩:=h.from_ _ hso
    have hk:bq p q R=true:=by
      rw[bq,Bool.and_eq_true] at hk1 ⊢
      refine ⟨by rw[hle,← e1]; exact hk1.1,?_⟩
      rw[h.pe]
      exact CY h.right h1
    have hin:=(h.kept R hR hk).2
    have hm:aZ (aW o) R∈r.rules:=by rw[h.rules]; exact List.mem_map.2 ⟨R,List.mem_filter.2 ⟨hR,hk⟩,rfl⟩
    have hb:=iK hso
    rw[List.map_cons,if_pos h0]
    exact .ca _ _ (aZ (aW o) R) i k j (by omega) hm (by simp only[aZ]; rw[hle]; omega) (ih1 hin) (ih2 fun s hs=>hl s (by simp[hs]))
theorem dk.GD (h:dk g p q o r) {w:List Int} {i j:Nat} (hs:Sp g w [-1 - g.start] i j):Sp r w [-1 - r.start] i j:=by
  have hf:=aO h.right
  have h0:=hf.dS
  have:=h.sp hs (fun s hs _=>by
    simp at hs; subst hs
    rw[show -1 - (-1 - g.start)=g.start by omega]
    exact h.start)
  rw[List.map_cons,List.map_nil,if_pos (by omega),show -1 - (-1 - g.start)=g.start by omega,← h.wj] at this
  exact this
end
theorem Jd {g:av} (hr:aR g=true) {w:List Int} (h:Sp g w [-1 - g.start] 0 w.length):jm g w g.start 0:=by
  have h0:=(aO hr).dS
  cases h with
  | term _ _ _ _ h1 _ _=>omega
  | ca _ _ R _ k _ h1 hR hl hsp hn =>
    cases hn
    have:=jm.full R R.right [] 0 hR (by simp) hsp
    rwa [show R.left=g.start by omega] at this
theorem ED {g:av} {p:List Int} {k:Nat} (hk:k≤p.length) {l:List Int} {i j:Nat} (h:Sp g p l i j):i≤k→k≤j →
    (∃ l1 l2,l=l1 ++ l2∧Sp g (p.take k) l1 i k)∨(∃ l1 s l2 a,l=l1 ++ s :: l2∧s < 0∧Sp g (p.take k) l1 i a∧a < k∧jm g (p.take k) (-1 - s) a):=by
  induction h with
  | nil i =>
    intro h1 h2
    have:i=k:=by omega
    subst this
    exact .inl ⟨[],[],rfl,.nil _⟩
  | term s l i j h0 hf hs ih =>
    intro h1 h2
    by_cases e:i=k
    · subst e; exact .inl ⟨[],s :: l,rfl,.nil _⟩
    · have hf':eu (p.take k) i s:=by
        obtain ⟨c,hc,h3⟩:=hf
        exact ⟨c,by rw[List.getElem?_take,if_pos (by omega)]; exact hc,h3⟩
      rcases ih (by omega) h2 with ⟨l1,l2,e2,h3⟩ | ⟨l1,s',l2,a,e2,h3,h4,h5,h6⟩
      · exact .inl ⟨s :: l1,l2,by rw[e2]; rfl,.term s l1 i k h0 hf' h3⟩
      · exact .inr ⟨s :: l1,s',l2,a,by rw[e2]; rfl,h3,.term s l1 i a h0 hf' h4,h5,h6⟩
  | ca s l R i m j h0 hR hl hs1 hs2 ih1 ih2 =>
    intro h1 h2
    by_cases e:i=k
    · subst e; exact .inl ⟨[],s :: l,rfl,.nil _⟩
    · by_cases hm:m≤k
      · have c1:=hs1.cut (k:=k) hm
        rcases ih2 hm h2 with ⟨l1,l2,e2,h3⟩ | ⟨l1,s',l2,a,e2,h3,h4,h5,h6⟩
        · exact .inl ⟨s :: l1,l2,by rw[e2]; rfl,.ca s l1 R i m k h0 hR hl c1 h3⟩
        · exact .inr ⟨s :: l1,s',l2,a,by rw[e2]; rfl,h3,.ca s l1 R i m a h0 hR hl c1 h4,h5,h6⟩
      · have hlen:(p.take k).length=k:=by simp; omega
        refine .inr ⟨[],s,l,i,rfl,h0,.nil _,by omega,?_⟩
        rw[← hl]
        rcases ih1 h1 (by omega) with ⟨l1,l2,e2,h3⟩ | ⟨l1,s',l2,a,e2,h3,h4,h5,h6⟩
        · exact .full R l1 l2 i hR e2 (by rw[hlen]; exact h3)
        · exact .deep R l1 l2 s' i a hR e2 h3 h4 (by rw[hlen]; exact h5) h6
theorem jm.cut {g:av} {p:List Int} {k:Nat} (hk:k≤p.length) {n:Int} {f:Nat} (h:jm g p n f):f≤k→jm g (p.take k) n f:=by
  have hlen:(p.take k).length=k:=by simp; omega
  induction h with
  | full R l1 l2 f hR e hs =>
    intro hf
    rcases ED hk hs hf hk with ⟨a1,a2,e2,h3⟩ | ⟨a1,s',a2,a,e2,h3,h4,h5,h6⟩
    · exact .full R a1 (a2 ++ l2) f hR (by rw[e,e2]; simp) (by rw[hlen]; exact h3)
    · exact .deep R a1 (a2 ++ l2) s' f a hR (by rw[e,e2]; simp) h3 h4 (by rw[hlen]; exact h5) h6
  | deep R l1 l2 s f a hR e h0 h1 h2 _ ih =>
    intro hf
    by_cases ha:a < k
    · exact .deep R l1 l2 s f a hR e h0 (h1.cut (by omega)) (by rw[hlen]; exact ha) (ih (by omega))
    · rcases ED hk h1 hf (by omega) with ⟨a1,a2,e2,h3⟩ | ⟨a1,s',a2,b,e2,h3,h4,h5,h6⟩
      · exact .full R a1 (a2 ++ s :: l2) f hR (by rw[e,e2]; simp) (by rw[hlen]; exact h3)
      · exact .deep R a1 (a2 ++ s :: l2) s' f b hR (by rw[e,e2]; simp) h3 h4 (by rw[hlen]; exact h5) h6
theorem Sp.wide {g:av} {p p':List Int} (hp:∀ i s,eu p i s→eu p' i s) {l:List Int} {i j:Nat} (h:Sp g p l i j):Sp g p' l i j:=by
  induction h with
  | nil i=>exact .nil i
  | term s l i j h0 hf _ ih=>exact .term s l i j h0 (hp _ _ hf) ih
  | ca s l R i k j h0 hR hl _ _ ih1 ih2=>exact .ca s l R i k j h0 hR hl ih1 ih2
theorem GW {p:List Int} {k:Nat} (i:Nat) (s:Int) (h:eu p i s):eu (p.set k (-1)) i s:=by
  obtain ⟨c,hc,h2⟩:=h
  have hl:=(List.getElem?_eq_some_iff.1 hc).1
  by_cases e:k=i
  · subst e
    exact ⟨-1,by simp[hl],.inr rfl⟩
  · exact ⟨c,by rw[List.getElem?_set,if_neg e]; exact hc,h2⟩
end Gv
set_option linter.unusedSimpArgs false
set_option maxRecDepth 100000
namespace Gv
open Go Go.Proofs
theorem AD (g:av) (l:List Int) (n:Int):∀ v∈[V.agg (ao g),encI l,.val (.int .u8 n)],Tree v:=by
  intro v hv; simp at hv
  rcases hv with rfl | rfl | rfl
  · exact bV _ (bK g)
  · exact cz l
  · exact .val _
theorem Fi {g:av} {p:List Int} {k:Nat} (h:(dy g p).2=0):(dy g (p.set k (-1))).2=0∧((dy g p).1=true→(dy g (p.set k (-1))).1=true):=by
  unfold dy at h
  split at h
  · rename_i hc
    have hc0:=hc
    simp only[Bool.and_eq_true,decide_eq_true_eq] at hc
    obtain ⟨⟨hr,hl⟩,hp⟩:=hc
    have hc':(aR g && decide ((p.set k (-1)).length≤60) && jK g (p.set k (-1)))=true:=by
      simp only[Bool.and_eq_true,decide_eq_true_eq]
      refine ⟨⟨hr,by simpa using hl⟩,?_⟩
      unfold jK at hp ⊢
      rw[List.all_eq_true] at hp ⊢
      intro x hx
      rcases List.mem_or_eq_of_mem_set hx with hx | rfl
      · exact hp x hx
      · simp; omega
    rw[dy,if_pos hc',dy,if_pos hc0]
    refine ⟨rfl,fun hf=>?_⟩
    simp only at hf ⊢
    rw[jG hr] at hf ⊢
    rw[List.length_set]
    exact hf.wide GW
  · simp at h
def gU:SF:=⟨.seq (al [cE 3 0,aU 6 false]) <|
  .seq (.seq (al [aG 12 12 [],bL 13 12]) <|
  .cond (.tmp 13) (.seq (al [aU 6 false]) <|
  .ret) (.skip)) <|
  .seq (.seq (.region false [⟨none,[aM 14 4 3,aG 15 13 [14],aa 16 15]⟩,⟨(some (16,false)),[aa 17 1,aL 18 17,ay 19 .gtr 18 10]⟩,⟨none,[bt 20 16 19,aa 21 20]⟩,⟨(some (21,false)),[aa 22 1,aL 23 22,ay 24 .eql 23 0]⟩,⟨none,[bt 25 21 24]⟩]) <|
  .cond (.tmp 25) (.seq (al [aU 6 true]) <|
  .ret) (.skip)) <|
  .seq (al [aa 26 1,aG 27 14 [26],aa 7 27]) <|
  .seq (al [aa 28 7,aa 29 2,((some 30),.op (.conv .i64 (.tmp 29))),aa 31 7,aL 32 31,bb 33 .rem 30 32,aN 34 1 28 33,(none,.op (.store 1 (.tmp 34) (.val (.val (.int .i64 (-1))))))]) <|
  .seq (al [aM 36 4 3,aa 37 1,aG 38 17 [36,37],aa 35 38,bQ 39 0 35,bQ 40 1 35,aa 8 39,aa 9 40]) <|
  .seq (al [aM 42 4 3,aa 43 7,aG 44 17 [42,43],aa 41 44,bQ 45 0 41,bQ 46 1 41,aa 10 45,aa 11 46]) <|
  .seq (.region false [⟨none,[aa 47 9,ay 48 .neq 47 0,aa 49 48]⟩,⟨(some (49,false)),[aa 50 11,ay 51 .eql 50 0,aa 52 51]⟩,⟨(some (52,true)),[aa 53 8,bL 54 53,aa 55 54]⟩,⟨(some (55,false)),[aa 56 10]⟩,⟨(some (52,true)),[bt 57 55 56]⟩,⟨(some (49,false)),[br 58 52 57]⟩,⟨none,[bt 59 49 58,aa 6 59]⟩]) <|
  .ret,
  [.tmp 6],60⟩
theorem lU:aX Tryz.prog 5 [3]=some gU:=by kernel_rfl
set_option maxHeartbeats 4000000 in
theorem xS (g:av) (hg:g.Ok) (l:List Int) (hl:aP l) (hn:∀ x∈l,bF x) (n:Int) (hn0:0≤n) (hn1:n≤255):aE Tryz.prog 5 [.agg (ao g),encI l,.val (.int .u8 n)] (gb true):=by
  refine aE.val (AD g l n) fun H=>?_
  refine aD.of mixed lU ?_
  have hl':=hl
  unfold aP at hl
  simp (disch:=omega) only [↓wr,↓reduceIte,wq,ai,ah,ak,ae,af,ag,aj,isNil,Nat.reduceEqDiff,Nat.reduceAdd,Nat.reduceLT,Nat.reduceLeDiff,Int.reduceNeg,Int.reduceToNat,reduceCtorEq,gU,ao,encS]
  refine az.pure nP (by kernel_rfl) ?_
  simp (disch:=omega) only [↓wr,↓reduceIte,wq,ai,ah,ak,ae,af,ag,aj,isNil,Nat.reduceEqDiff,Nat.reduceAdd,Nat.reduceLT,Nat.reduceLeDiff,Int.reduceNeg,Int.reduceToNat,reduceCtorEq,ao,encS]
  refine az.pure (rA g) (by kernel_rfl) ?_
  simp (disch:=omega) only [↓wr,↓reduceIte,wq,ai,ah,ak,ae,af,ag,aj,isNil,Nat.reduceEqDiff,Nat.reduceAdd,Nat.reduceLT,Nat.reduceLeDiff,Int.reduceNeg,Int.reduceToNat,reduceCtorEq]
  refine aq.split (fun e=>?_) (fun e=>?_)
  · simp (disch:=omega) only [↓wr,↓reduceIte,wq,ai,ah,ak,ae,af,ag,aj,isNil,Nat.reduceEqDiff,Nat.reduceAdd,Nat.reduceLT,Nat.reduceLeDiff,Int.reduceNeg,Int.reduceToNat,reduceCtorEq]
  · have hs:g.Small:=l9 e
    simp (disch:=omega) only [↓wr,↓reduceIte,wq,ai,ah,ak,ae,af,ag,aj,isNil,Nat.reduceEqDiff,Nat.reduceAdd,Nat.reduceLT,Nat.reduceLeDiff,Int.reduceNeg,Int.reduceToNat,reduceCtorEq,encI]
    refine aq.dec (fun hc=>?_) (fun hc=>?_)
    · simp (disch:=omega) only [↓wr,↓reduceIte,wq,ai,ah,ak,ae,af,ag,aj,isNil,Nat.reduceEqDiff,Nat.reduceAdd,Nat.reduceLT,Nat.reduceLeDiff,Int.reduceNeg,Int.reduceToNat,reduceCtorEq]
    · simp (disch:=omega) only [↓wr,↓reduceIte,wq,ai,ah,ak,ae,af,ag,aj,isNil,Nat.reduceEqDiff,Nat.reduceAdd,Nat.reduceLT,Nat.reduceLeDiff,Int.reduceNeg,Int.reduceToNat,reduceCtorEq,encI]
      refine aq.eq (fun hz=>?_) (fun hz=>?_)
      · simp (disch:=omega) only [↓wr,↓reduceIte,wq,ai,ah,ak,ae,af,ag,aj,isNil,Nat.reduceEqDiff,Nat.reduceAdd,Nat.reduceLT,Nat.reduceLeDiff,Int.reduceNeg,Int.reduceToNat,reduceCtorEq]
      · simp (disch:=omega) only [↓wr,↓reduceIte,wq,ai,ah,ak,ae,af,ag,aj,isNil,Nat.reduceEqDiff,Nat.reduceAdd,Nat.reduceLT,Nat.reduceLeDiff,Int.reduceNeg,Int.reduceToNat,reduceCtorEq,encI]
        refine az.ez ((yS l (by omega) _).mono ?_)
        rintro v H1 ⟨hv,_⟩
        obtain ⟨m,rfl,hm⟩:=hv.sl (by simp; omega)
        obtain ⟨k,hk,hkl⟩:∃ k:Nat,n.tmod (l.length:Int)=k∧k < l.length:=by
          have h1:=Int.tmod_nonneg (l.length:Int) hn0
          have h2:=Int.tmod_lt_of_pos n (show (0:Int) < (l.length:Int) by omega)
          exact ⟨(n.tmod (l.length:Int)).toNat,by omega,by omega⟩
        have hgk:(bI l).getD k []=[gi (l.getD k 0)]:=by simp[List.getD_eq_getElem?_getD,hkl]
        simp (disch:=omega) only [↓wr,↓reduceIte,wq,ai,ah,ak,ae,af,ag,aj,isNil,Nat.reduceEqDiff,Nat.reduceAdd,Nat.reduceLT,Nat.reduceLeDiff,Int.reduceNeg,Int.reduceToNat,reduceCtorEq,encI]
        rw[if_neg (by omega),hk]
        simp (disch:=omega) only [↓wr,↓reduceIte,wq,ai,ah,ak,ae,af,ag,aj,isNil,Nat.reduceEqDiff,Nat.reduceAdd,Nat.reduceLT,Nat.reduceLeDiff,Int.reduceNeg,Int.reduceToNat,reduceCtorEq,hm,hgk]
        refine ⟨by simpa using hkl,by simpa using hkl,?_⟩
        have hm2:(H1.set m (.arr 1 ((bI l).set k [gi (-1)]))) m=.arr 1 (bI (l.set k (-1))):=by
          simp only[View.set,if_true]; rw[F2]
        have ho2:bp (H1.set m (.arr 1 ((bI l).set k [gi (-1)]))) (.sl m 0 l.length 1) 1 (bI (l.set k (-1))):=.inr ⟨m,by simp,hm2⟩
        have p1:=oV g hg hs l hl' hn
        have p2:=oV g hg hs (l.set k (-1)) (by unfold aP at hl' ⊢; simpa using hl') (fun x hx=>by
          rcases List.mem_or_eq_of_mem_set hx with hx | rfl
          · exact hn x hx
          · unfold bF; decide)
        have hw:=Fi (g:=g) (p:=l) (k:=k)
        generalize dy g l=y at p1 hw
        generalize dy g (l.set k (-1))=z at p2 hw
        obtain ⟨y1,y2⟩:=y
        obtain ⟨z1,z2⟩:=z
        simp only at hw
        have lv:=bW.I0 ho2
        have lg:bW (H1.set m (.arr 1 ((bI l).set k [gi (-1)]))) (.agg [.bc (g.aC.map ch),.bc (g.au.map fun s=>[gs s]),.bc (g.rules.map aJ),gi g.start]) (.agg [.bc (g.aC.map ch),.bc (g.au.map fun s=>[gs s]),.bc (g.rules.map aJ),gi g.start]):=bW.tree (bV _ (bK g))
        simp only[ao,encS,encI] at p1 p2
        refine az.pure p1 (by kernel_rfl) ?_
        simp (disch:=omega) only [↓wr,↓reduceIte,wq,ai,ah,ak,ae,af,ag,aj,isNil,Nat.reduceEqDiff,Nat.reduceAdd,Nat.reduceLT,Nat.reduceLeDiff,Int.reduceNeg,Int.reduceToNat,reduceCtorEq,dn]
        refine az.wa p2 (by kernel_rfl) (ep _) ⟨lg,lv,trivial⟩ ?_
        simp (disch:=omega) only [↓wr,↓reduceIte,wq,ai,ah,ak,ae,af,ag,aj,isNil,Nat.reduceEqDiff,Nat.reduceAdd,Nat.reduceLT,Nat.reduceLeDiff,Int.reduceNeg,Int.reduceToNat,reduceCtorEq,dn]
        refine aq.ne (fun hy=>?_) (fun hy=>?_)
        · simp (disch:=omega) only [↓wr,↓reduceIte,wq,ai,ah,ak,ae,af,ag,aj,isNil,Nat.reduceEqDiff,Nat.reduceAdd,Nat.reduceLT,Nat.reduceLeDiff,Int.reduceNeg,Int.reduceToNat,reduceCtorEq]
        · obtain ⟨w1,w2⟩:=hw hy
          subst w1
          simp (disch:=omega) only [↓wr,↓reduceIte,wq,ai,ah,ak,ae,af,ag,aj,isNil,Nat.reduceEqDiff,Nat.reduceAdd,Nat.reduceLT,Nat.reduceLeDiff,Int.reduceNeg,Int.reduceToNat,reduceCtorEq]
          refine aq.eq (fun _=>?_) (fun hc=>absurd rfl hc)
          simp (disch:=omega) only [↓wr,↓reduceIte,wq,ai,ah,ak,ae,af,ag,aj,isNil,Nat.reduceEqDiff,Nat.reduceAdd,Nat.reduceLT,Nat.reduceLeDiff,Int.reduceNeg,Int.reduceToNat,reduceCtorEq]
          refine aq.split (fun hy1=>?_) (fun hy1=>?_)
          · simp (disch:=omega) only [↓wr,↓reduceIte,wq,ai,ah,ak,ae,af,ag,aj,isNil,Nat.reduceEqDiff,Nat.reduceAdd,Nat.reduceLT,Nat.reduceLeDiff,Int.reduceNeg,Int.reduceToNat,reduceCtorEq]
            rw[w2 (by simpa using hy1)]
          · simp (disch:=omega) only [↓wr,↓reduceIte,wq,ai,ah,ak,ae,af,ag,aj,isNil,Nat.reduceEqDiff,Nat.reduceAdd,Nat.reduceLT,Nat.reduceLeDiff,Int.reduceNeg,Int.reduceToNat,reduceCtorEq]
theorem E1 {g:av} {w:List Int} (h:dw g w=true) (k:Nat):dw g (w.take k)=true:=by
  simp only[dw,Bool.and_eq_true,decide_eq_true_eq] at h ⊢
  refine ⟨⟨h.1.1,by simp; omega⟩,?_⟩
  have:=h.2
  unfold vZ at this ⊢
  rw[List.all_eq_true] at this ⊢
  exact fun x hx=>this x (List.mem_of_mem_take hx)
theorem DH {g:av} {w:List Int} (h:dw g w=true) (hf:fN g w=true):bY g w=(true,0):=by
  have hr:aR g=true:=by
    simp only[dw,Bool.and_eq_true] at h
    exact h.1.1
  have hs:=(jG hr w).1 hf
  have h0:=(aO hr).dS
  have hp:(aw g true).getD g.start.toNat false=true:=by
    have:=CY hr hs
    simp only[cg,List.all_cons,List.all_nil,Bool.and_true] at this
    rw[if_neg (by omega)] at this
    rwa [show -1 - (-1 - g.start)=g.start by omega] at this
  have hred:=Bq hr hp
  have he:dp g=(eO g (aW (bw (aw g true) (aQ g) g.rules)) (aw g true) (aQ g),bO (aw g true) (aQ g) g.rules 0,0):=by rw[fa hr,if_pos hp]
  have hpre:=Jd hred.fB (hred.GD hs)
  rw[bY,if_pos h,he]
  simp only[if_true]
  rw[lL.2 hpre]
theorem BX {g:av} {w:List Int} (h:dw g w=true) {k:Nat} (hk:k≤w.length):∃ b c,bY g w=(b,0)∧bY g (w.take k)=(c,0)∧(b=true→c=true):=by
  rw[bY,if_pos h,bY,if_pos (E1 h k)]
  split
  · refine ⟨_,_,rfl,rfl,fun hb=>?_⟩
    rw[lL] at hb ⊢
    exact hb.cut hk (by omega)
  · exact ⟨_,_,rfl,rfl,fun hb=>by simp at hb⟩
def gp:SF:=⟨.seq (al [cE 3 0,aU 6 false]) <|
  .seq (.seq (al [aG 14 12 [],bL 15 14]) <|
  .cond (.tmp 15) (.seq (al [aU 6 false]) <|
  .ret) (.skip)) <|
  .seq (.seq (.region false [⟨none,[aM 16 4 3,aG 17 13 [16],aa 18 17]⟩,⟨(some (18,false)),[aa 19 1,aL 20 19,ay 21 .gtr 20 10]⟩,⟨none,[bt 22 18 21]⟩]) <|
  .cond (.tmp 22) (.seq (al [aU 6 true]) <|
  .ret) (.skip)) <|
  .seq (al [aa 23 2,((some 24),.op (.conv .i64 (.tmp 23))),aa 25 1,aL 26 25,ay 27 .add 26 1,bb 28 .rem 24 27,aa 7 28]) <|
  .seq (al [aM 30 4 3,aa 31 1,aG 32 15 [30,31],aa 29 32,bQ 33 0 29,bQ 34 1 29,aa 8 33,aa 9 34]) <|
  .seq (al [aM 36 4 3,aa 37 1,aG 38 20 [36,37],aa 35 38,bQ 39 0 35,bQ 40 1 35,aa 10 39,aa 11 40]) <|
  .seq (al [aM 42 4 3,aa 43 1,aa 44 7,((some 45),.op (.slice 1 (.tmp 43) none (some (.tmp 44)))),aG 46 20 [42,45],aa 41 46,bQ 47 0 41,bQ 48 1 41,aa 12 47,aa 13 48]) <|
  .seq (.seq (al [aa 49 9,ay 50 .neq 49 0]) <|
  .cond (.tmp 50) (.seq (al [aa 51 11,aa 52 9,bb 53 .eql 51 52,aa 6 53]) <|
  .ret) (.skip)) <|
  .seq (.region false [⟨none,[aa 54 11,ay 55 .eql 54 0,aa 56 55]⟩,⟨(some (56,true)),[aa 57 13,ay 58 .eql 57 0]⟩,⟨none,[br 59 56 58,aa 60 59]⟩,⟨(some (60,true)),[aa 61 8,bL 62 61,aa 63 62]⟩,⟨(some (63,false)),[aa 64 10]⟩,⟨(some (60,true)),[bt 65 63 64]⟩,⟨none,[br 66 60 65,aa 67 66]⟩,⟨(some (67,true)),[aa 68 10,bL 69 68,aa 70 69]⟩,⟨(some (70,false)),[aa 71 12]⟩,⟨(some (67,true)),[bt 72 70 71]⟩,⟨none,[br 73 67 72,aa 6 73]⟩]) <|
  .ret,
  [.tmp 6],74⟩
theorem k7:aX Tryz.prog 6 [3]=some gp:=by kernel_rfl
set_option maxHeartbeats 4000000 in
theorem xJ (g:av) (hg:g.Ok) (l:List Int) (hl:aP l) (hn:∀ x∈l,bF x) (n:Int) (hn0:0≤n) (hn1:n≤255):aE Tryz.prog 6 [.agg (ao g),encI l,.val (.int .u8 n)] (gb true):=by
  refine aE.val (AD g l n) fun H=>?_
  refine aD.of mixed k7 ?_
  have hl':=hl
  unfold aP at hl
  simp (disch:=omega) only [↓wr,↓reduceIte,wq,ai,ah,ak,ae,af,ag,aj,isNil,Nat.reduceEqDiff,Nat.reduceAdd,Nat.reduceLT,Nat.reduceLeDiff,Int.reduceNeg,Int.reduceToNat,reduceCtorEq,gp,ao,encS]
  refine az.pure nP (by kernel_rfl) ?_
  simp (disch:=omega) only [↓wr,↓reduceIte,wq,ai,ah,ak,ae,af,ag,aj,isNil,Nat.reduceEqDiff,Nat.reduceAdd,Nat.reduceLT,Nat.reduceLeDiff,Int.reduceNeg,Int.reduceToNat,reduceCtorEq,ao,encS]
  refine az.pure (rA g) (by kernel_rfl) ?_
  simp (disch:=omega) only [↓wr,↓reduceIte,wq,ai,ah,ak,ae,af,ag,aj,isNil,Nat.reduceEqDiff,Nat.reduceAdd,Nat.reduceLT,Nat.reduceLeDiff,Int.reduceNeg,Int.reduceToNat,reduceCtorEq]
  refine aq.split (fun e=>?_) (fun e=>?_)
  · simp (disch:=omega) only [↓wr,↓reduceIte,wq,ai,ah,ak,ae,af,ag,aj,isNil,Nat.reduceEqDiff,Nat.reduceAdd,Nat.reduceLT,Nat.reduceLeDiff,Int.reduceNeg,Int.reduceToNat,reduceCtorEq]
  · have hs:g.Small:=l9 e
    simp (disch:=omega) only [↓wr,↓reduceIte,wq,ai,ah,ak,ae,af,ag,aj,isNil,Nat.reduceEqDiff,Nat.reduceAdd,Nat.reduceLT,Nat.reduceLeDiff,Int.reduceNeg,Int.reduceToNat,reduceCtorEq,encI]
    refine aq.dec (fun hc=>?_) (fun hc=>?_)
    · simp (disch:=omega) only [↓wr,↓reduceIte,wq,ai,ah,ak,ae,af,ag,aj,isNil,Nat.reduceEqDiff,Nat.reduceAdd,Nat.reduceLT,Nat.reduceLeDiff,Int.reduceNeg,Int.reduceToNat,reduceCtorEq]
    · simp (disch:=omega) only [↓wr,↓reduceIte,wq,ai,ah,ak,ae,af,ag,aj,isNil,Nat.reduceEqDiff,Nat.reduceAdd,Nat.reduceLT,Nat.reduceLeDiff,Int.reduceNeg,Int.reduceToNat,reduceCtorEq,encI]
      obtain ⟨k,hk,hkl⟩:∃ k:Nat,n.tmod ((l.length:Int)+1)=k∧k≤l.length:=by
        have h1:=Int.tmod_nonneg ((l.length:Int)+1) hn0
        have h2:=Int.tmod_lt_of_pos n (show (0:Int) < (l.length:Int)+1 by omega)
        exact ⟨(n.tmod ((l.length:Int)+1)).toNat,by omega,by omega⟩
      rw[if_neg (by omega),hk]
      have p1:=nZ g hg hs l hl' hn
      have p2:=kU g hg hs l hl' hn
      have p3:=kU g hg hs (l.take k) (by unfold aP; simp; omega) (fun x hx=>hn x (List.mem_of_mem_take hx))
      have hst:=wQ (l:=l) (k:=k) hkl
      simp only[ao,encS,encI] at p1 p2 p3
      simp (disch:=omega) only [↓wr,↓reduceIte,wq,ai,ah,ak,ae,af,ag,aj,isNil,Nat.reduceEqDiff,Nat.reduceAdd,Nat.reduceLT,Nat.reduceLeDiff,Int.reduceNeg,Int.reduceToNat,reduceCtorEq,encI,ao,encS]
      refine az.pure p1 (by kernel_rfl) ?_
      by_cases hw:dw g l=true
      · obtain ⟨b,c,q1,q2,q3⟩:=BX hw hkl
        have h1:fc g l=(fN g l,0):=by rw[fc,if_pos hw]
        have q4:fN g l=true→b=true:=fun h=>by
          have:=DH hw h
          rw[q1] at this
          simpa using this
        rw[h1]
        rw[q1] at p2
        rw[q2] at p3
        generalize fN g l=a at q4 ⊢
        simp (disch:=omega) only [↓wr,↓reduceIte,wq,ai,ah,ak,ae,af,ag,aj,isNil,Nat.reduceEqDiff,Nat.reduceAdd,Nat.reduceLT,Nat.reduceLeDiff,Int.reduceNeg,Int.reduceToNat,reduceCtorEq,dn,encI]
        refine az.pure p2 (by kernel_rfl) ?_
        simp (disch:=omega) only [↓wr,↓reduceIte,wq,ai,ah,ak,ae,af,ag,aj,isNil,Nat.reduceEqDiff,Nat.reduceAdd,Nat.reduceLT,Nat.reduceLeDiff,Int.reduceNeg,Int.reduceToNat,reduceCtorEq,dn,encI,hst]
        refine az.pure p3 (by kernel_rfl) ?_
        simp (disch:=omega) only [↓wr,↓reduceIte,wq,ai,ah,ak,ae,af,ag,aj,isNil,Nat.reduceEqDiff,Nat.reduceAdd,Nat.reduceLT,Nat.reduceLeDiff,Int.reduceNeg,Int.reduceToNat,reduceCtorEq,dn]
        cases a <;> cases b <;> cases c <;> (try exact absurd (q3 rfl) (by decide)) <;> (try exact absurd (q4 rfl) (by decide))
        all_goals repeat' (first | (refine aq.ne (fun hx=>absurd rfl hx) (fun _=>?_)) | (refine aq.eq (fun _=>?_) (fun hx=>absurd rfl hx)) | simp (disch:=omega) only [↓wr,↓reduceIte,wq,ai,ah,ak,ae,af,ag,aj,isNil,Nat.reduceEqDiff,Nat.reduceAdd,Nat.reduceLT,Nat.reduceLeDiff,Int.reduceNeg,Int.reduceToNat,reduceCtorEq])
        all_goals rfl
      · have h1:fc g l=(false,1):=by rw[fc,if_neg hw]
        have h2:bY g l=(false,1):=by rw[bY,if_neg hw]
        rw[h1]
        rw[h2] at p2
        generalize bY g (l.take k)=y at p3
        obtain ⟨y1,y2⟩:=y
        simp (disch:=omega) only [↓wr,↓reduceIte,wq,ai,ah,ak,ae,af,ag,aj,isNil,Nat.reduceEqDiff,Nat.reduceAdd,Nat.reduceLT,Nat.reduceLeDiff,Int.reduceNeg,Int.reduceToNat,reduceCtorEq,dn,encI]
        refine az.pure p2 (by kernel_rfl) ?_
        simp (disch:=omega) only [↓wr,↓reduceIte,wq,ai,ah,ak,ae,af,ag,aj,isNil,Nat.reduceEqDiff,Nat.reduceAdd,Nat.reduceLT,Nat.reduceLeDiff,Int.reduceNeg,Int.reduceToNat,reduceCtorEq,dn,encI,hst]
        refine az.pure p3 (by kernel_rfl) ?_
        simp (disch:=omega) only [↓wr,↓reduceIte,wq,ai,ah,ak,ae,af,ag,aj,isNil,Nat.reduceEqDiff,Nat.reduceAdd,Nat.reduceLT,Nat.reduceLeDiff,Int.reduceNeg,Int.reduceToNat,reduceCtorEq,dn]
        refine aq.ne (fun _=>?_) (fun hx=>absurd hx (by decide))
        simp (disch:=omega) only [↓wr,↓reduceIte,wq,ai,ah,ak,ae,af,ag,aj,isNil,Nat.reduceEqDiff,Nat.reduceAdd,Nat.reduceLT,Nat.reduceLeDiff,Int.reduceNeg,Int.reduceToNat,reduceCtorEq]
        rfl
end Gv
