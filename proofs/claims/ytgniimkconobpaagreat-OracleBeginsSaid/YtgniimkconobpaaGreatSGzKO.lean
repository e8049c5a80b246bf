/-
  Part 15 of the proof: what the machine does and what the functions answer.
  Conditions: those that each lemma names.
-/
import Derived.Test.YtgniimkconobpaaGreatSGzKN
set_option linter.unusedSimpArgs false
set_option linter.unusedVariables false
set_option linter.unusedSimpArgs false
set_option maxRecDepth 100000
namespace Gv
open Go Go.Proofs
theorem ep (x:Bool × Int):te (di x):=.bt _ fun i hi=>by
  match i,hi with
  | 0,_=>exact ⟨_,rfl⟩
  | 1,_=>exact ⟨_,rfl⟩
def k7:SF:=⟨.seq (an [bb 0 false]) <|
  .seq (an [((some 24),.op (.bE 16 1 [(.val (.int .u8 0))] [(0,(.val (.val (.int .u8 37)))),(1,(.val (.val (.int .u8 37)))),(2,(.val (.val (.int .u8 32)))),(3,(.val (.val (.int .u8 115)))),(4,(.val (.val (.int .u8 32)))),(5,(.val (.val (.int .u8 58)))),(6,(.val (.val (.int .u8 32)))),(7,(.val (.val (.int .u8 39)))),(8,(.val (.val (.int .u8 97)))),(9,(.val (.val (.int .u8 39)))),(10,(.val (.val (.int .u8 32)))),(11,(.val (.val (.int .u8 115)))),(12,(.val (.val (.int .u8 32)))),(13,(.val (.val (.int .u8 124)))),(14,(.val (.val (.int .u8 32)))),(15,(.val (.val (.int .u8 59))))])),((some 25),.op (.bj (.convert 57 57 (.tmp 24)) 57)),aY 26 33 [25],aj 23 26,ct 27 0 23,ct 28 1 23,ct 29 2 23,((some 1),.op (.alloc [(.emp 1),(.emp 1),(.emp 1),(.val (.int .i64 0))])),(none,.op (.store 4 (.tmp 1) (.tmp 27))),aj 2 28,aj 3 29]) <|
  .seq (an [((some 31),.op (.bE 38 1 [(.val (.int .u8 0))] [(0,(.val (.val (.int .u8 37)))),(1,(.val (.val (.int .u8 37)))),(2,(.val (.val (.int .u8 32)))),(3,(.val (.val (.int .u8 115)))),(4,(.val (.val (.int .u8 32)))),(5,(.val (.val (.int .u8 58)))),(6,(.val (.val (.int .u8 32)))),(7,(.val (.val (.int .u8 115)))),(8,(.val (.val (.int .u8 32)))),(9,(.val (.val (.int .u8 115)))),(10,(.val (.val (.int .u8 32)))),(11,(.val (.val (.int .u8 124)))),(12,(.val (.val (.int .u8 32)))),(13,(.val (.val (.int .u8 110)))),(14,(.val (.val (.int .u8 32)))),(15,(.val (.val (.int .u8 39)))),(16,(.val (.val (.int .u8 97)))),(17,(.val (.val (.int .u8 39)))),(18,(.val (.val (.int .u8 32)))),(19,(.val (.val (.int .u8 110)))),(20,(.val (.val (.int .u8 32)))),(21,(.val (.val (.int .u8 39)))),(22,(.val (.val (.int .u8 98)))),(23,(.val (.val (.int .u8 39)))),(24,(.val (.val (.int .u8 32)))),(25,(.val (.val (.int .u8 124)))),(26,(.val (.val (.int .u8 32)))),(27,(.val (.val (.int .u8 59)))),(28,(.val (.val (.int .u8 32)))),(29,(.val (.val (.int .u8 110)))),(30,(.val (.val (.int .u8 32)))),(31,(.val (.val (.int .u8 58)))),(32,(.val (.val (.int .u8 32)))),(33,(.val (.val (.int .u8 110)))),(34,(.val (.val (.int .u8 32)))),(35,(.val (.val (.int .u8 124)))),(36,(.val (.val (.int .u8 32)))),(37,(.val (.val (.int .u8 59))))])),((some 32),.op (.bj (.convert 57 57 (.tmp 31)) 57)),aY 33 33 [32],aj 30 33,ct 34 0 30,ct 35 1 30,ct 36 2 30,((some 4),.op (.alloc [(.emp 1),(.emp 1),(.emp 1),(.val (.int .i64 0))])),(none,.op (.store 4 (.tmp 4) (.tmp 34))),aj 5 35,aj 6 36]) <|
  .seq (an [bo 38 4 1,((some 39),.op (.bE 2 1 [(.val (.int .i64 0))] [(0,(.val (.val (.int .i64 0)))),(1,(.val (.val (.int .i64 0))))])),aY 40 15 [38,39],aj 37 40,ct 41 0 37,ct 42 1 37,aj 7 41,aj 8 42]) <|
  .seq (an [bo 44 4 4,((some 45),.op (.bE 4 1 [(.val (.int .i64 0))] [(0,(.val (.val (.int .i64 0)))),(1,(.val (.val (.int .i64 1)))),(2,(.val (.val (.int .i64 0)))),(3,(.val (.val (.int .i64 1))))])),aY 46 15 [44,45],aj 43 46,ct 47 0 43,ct 48 1 43,aj 9 47,aj 10 48]) <|
  .seq (an [bo 50 4 4,((some 51),.op (.bE 2 1 [(.val (.int .i64 0))] [(0,(.val (.val (.int .i64 0)))),(1,(.val (.val (.int .i64 0))))])),aY 52 15 [50,51],aj 49 52,ct 53 0 49,ct 54 1 49,aj 11 53,aj 12 54]) <|
  .seq (an [bo 56 4 4,((some 57),.op (.bE 2 1 [(.val (.int .i64 0))] [(0,(.val (.val (.int .i64 (-1))))),(1,(.val (.val (.int .i64 1))))])),aY 58 17 [56,57],aj 55 58,ct 59 0 55,ct 60 1 55,aj 13 59,aj 14 60]) <|
  .seq (an [bo 62 4 4,((some 63),.op (.bE 1 1 [(.val (.int .i64 0))] [(0,(.val (.val (.int .i64 (-1)))))])),aY 64 17 [62,63],aj 61 64,ct 65 0 61,ct 66 1 61,aj 15 65,aj 16 66]) <|
  .seq (an [bo 68 4 4,((some 69),.op (.bE 3 1 [(.val (.int .i64 0))] [(0,(.val (.val (.int .i64 0)))),(1,(.val (.val (.int .i64 1)))),(2,(.val (.val (.int .i64 0))))])),aY 70 20 [68,69],aj 67 70,ct 71 0 67,ct 72 1 67,aj 17 71,aj 18 72]) <|
  .seq (an [bo 74 4 4,((some 75),.op (.bE 1 1 [(.val (.int .i64 0))] [(0,(.val (.val (.int .i64 1))))])),aY 76 20 [74,75],aj 73 76,ct 77 0 73,ct 78 1 73,aj 19 77,aj 20 78]) <|
  .seq (an [bo 80 4 1,((some 81),.op (.bE 1 1 [(.val (.int .i64 0))] [(0,(.val (.val (.int .i64 1))))])),aY 82 15 [80,81],aj 79 82,ct 83 0 79,ct 84 1 79,aj 21 83,aj 22 84]) <|
  .seq (.region false [⟨none,[aj 85 7,aj 86 85]⟩,⟨(some (86,true)),[aj 87 9]⟩,⟨none,[cx 88 86 87,aj 89 88]⟩,⟨(some (89,true)),[aj 90 11,bP 91 90]⟩,⟨none,[cx 92 89 91,aj 93 92]⟩,⟨(some (93,true)),[aj 94 13]⟩,⟨none,[cx 95 93 94,aj 96 95]⟩,⟨(some (96,true)),[aj 97 15,bP 98 97]⟩,⟨none,[cx 99 96 98,aj 100 99]⟩,⟨(some (100,true)),[aj 101 17]⟩,⟨none,[cx 102 100 101,aj 103 102]⟩,⟨(some (103,true)),[aj 104 19,bP 105 104]⟩,⟨none,[cx 106 103 105,aj 107 106]⟩,⟨(some (107,true)),[aj 108 8,aH 109 .eql 108 0]⟩,⟨none,[cx 110 107 109,aj 111 110]⟩,⟨(some (111,true)),[aj 112 10,aH 113 .eql 112 0]⟩,⟨none,[cx 114 111 113,aj 115 114]⟩,⟨(some (115,true)),[aj 116 14,aH 117 .eql 116 0]⟩,⟨none,[cx 118 115 117,aj 119 118]⟩,⟨(some (119,true)),[aj 120 18,aH 121 .eql 120 0]⟩,⟨none,[cx 122 119 121,aj 123 122]⟩,⟨(some (123,true)),[aj 124 22,aH 125 .eql 124 1]⟩,⟨none,[cx 126 123 125,aj 0 126]⟩]) <|
  .ret,
  [.tmp 0],127⟩
theorem pQ:aR Tryz.prog 12 []=some k7:=by kernel_rfl
set_option maxHeartbeats 4000000 in
theorem zD (g1 g2:au) (k1:g1.Ok) (k2:g2.Ok) (s1:g1.Small) (s2:g2.Small) (h1:cq Tryz.prog 33 [tM xy] (j1 g1)) (h2:cq Tryz.prog 33 [tM xE] (j1 g2))
    (e1:eY g1 [0,0]=(true,0)) (e2:eY g2 [0,1,0,1]=(true,0)) (e3:eY g2 [0,0]=(false,0)) (e4:dw g2 [-1,1]=(true,0)) (e5:dw g2 [-1]=(false,0)) (e6:bV g2 [0,1,0]=(true,0)) (e7:bV g2 [1]=(false,0)) (e8:eY g1 [1]=(false,1)):aC Tryz.prog 12 [] (gb true):=by
  refine aC.val (by simp) fun H=>?_
  refine aB.of mixed pQ ?_
  simp (disch:=omega) only [↓wr,↓reduceIte,wq,ah,ag,al,aa,ae,af,ai,isNil,Nat.reduceEqDiff,Nat.reduceAdd,Nat.reduceLT,Nat.reduceLeDiff,Int.reduceNeg,Int.reduceToNat,reduceCtorEq,k7]
  intro n1 hn1
  try simp (disch:=omega) only [↓wr,↓reduceIte,wq,ah,ag,al,aa,ae,af,ai,isNil,Nat.reduceEqDiff,Nat.reduceAdd,Nat.reduceLT,Nat.reduceLeDiff,Int.reduceNeg,Int.reduceToNat,reduceCtorEq]
  generalize t1:xy.map (fun x=>[gy x])=es1
  have t1':=t1
  simp only[xy,List.map_cons,List.map_nil] at t1'
  rw[t1']
  refine vh (id:=n1) (len:=16) Tryz.underlying57 Tryz.underlying5 rfl (by omega) (by simp only[View.set,if_true]; rfl) ?_
  simp (disch:=omega) only [↓wr,↓reduceIte,wq,ah,ag,al,aa,ae,af,ai,isNil,Nat.reduceEqDiff,Nat.reduceAdd,Nat.reduceLT,Nat.reduceLeDiff,Int.reduceNeg,Int.reduceToNat,reduceCtorEq]
  refine ax.zR h1 (by kernel_rfl) ⟨wQ xy (by simp only[View.set,if_true,t1]),trivial⟩ ?_
  clear t1 t1' hn1
  generalize H.set n1 (bC.arr 1 es1)=H1
  clear H
  simp (disch:=omega) only [↓wr,↓reduceIte,wq,ah,ag,al,aa,ae,af,ai,isNil,Nat.reduceEqDiff,Nat.reduceAdd,Nat.reduceLT,Nat.reduceLeDiff,Int.reduceNeg,Int.reduceToNat,reduceCtorEq,j1,ao,encS]
  intro n2 hn2
  try simp (disch:=omega) only [↓wr,↓reduceIte,wq,ah,ag,al,aa,ae,af,ai,isNil,Nat.reduceEqDiff,Nat.reduceAdd,Nat.reduceLT,Nat.reduceLeDiff,Int.reduceNeg,Int.reduceToNat,reduceCtorEq]
  intro n3 hn3
  have d32:=(bG hn3 bI).1
  try simp (disch:=omega) only [↓wr,↓reduceIte,wq,ah,ag,al,aa,ae,af,ai,isNil,Nat.reduceEqDiff,Nat.reduceAdd,Nat.reduceLT,Nat.reduceLeDiff,Int.reduceNeg,Int.reduceToNat,reduceCtorEq]
  generalize t1:xE.map (fun x=>[gy x])=es2
  have t1':=t1
  simp only[xE,List.map_cons,List.map_nil] at t1'
  rw[t1']
  refine vh (id:=n3) (len:=38) Tryz.underlying57 Tryz.underlying5 rfl (by omega) (by simp only[View.set,if_true]; rfl) ?_
  simp (disch:=omega) only [↓wr,↓reduceIte,wq,ah,ag,al,aa,ae,af,ai,isNil,Nat.reduceEqDiff,Nat.reduceAdd,Nat.reduceLT,Nat.reduceLeDiff,Int.reduceNeg,Int.reduceToNat,reduceCtorEq]
  refine ax.zR h2 (by kernel_rfl) ⟨wQ xE (by simp only[View.set,if_true,t1]),trivial⟩ ?_
  clear t1 t1'
  simp (disch:=omega) only [↓wr,↓reduceIte,wq,ah,ag,al,aa,ae,af,ai,isNil,Nat.reduceEqDiff,Nat.reduceAdd,Nat.reduceLT,Nat.reduceLeDiff,Int.reduceNeg,Int.reduceToNat,reduceCtorEq,j1,ao,encS]
  intro n4 hn4
  have d43:=(bG hn4 bI).1
  have d42:=(bG (bG hn4 bI).2 bI).1
  try simp (disch:=omega) only [↓wr,↓reduceIte,wq,ah,ag,al,aa,ae,af,ai,isNil,Nat.reduceEqDiff,Nat.reduceAdd,Nat.reduceLT,Nat.reduceLeDiff,Int.reduceNeg,Int.reduceToNat,reduceCtorEq,d32,d43,d42,d32.symm,d43.symm,d42.symm]
  intro m hm
  obtain ⟨a1,hm⟩:=bG hm bI
  obtain ⟨_,hm⟩:=bG hm bI
  obtain ⟨_,hm⟩:=bG hm bI
  obtain ⟨a4,hm⟩:=bG hm bI
  have hc:=oc g1 k1 s1 [0,0] (by unfold aK; decide) (fun x hx=>by simp at hx; (try rcases hx with rfl | rfl | rfl | rfl); all_goals (try rcases hx with rfl | rfl | rfl); all_goals (try rcases hx with rfl | rfl); all_goals (try subst hx); all_goals (unfold bB; decide))
  rw[e1] at hc
  refine ax.mD (fun H=>H n2=.arr 4 [ao g1]∧H n4=.arr 4 [ao g2]) hc (by kernel_rfl) (ep _) ⟨bS.tree (bT _ (bH g1)),fp (l:=[0,0]) (by simp[View.set]) rfl,trivial⟩ (by simp[View.set,a1.symm,a4.symm,d32,d42,d43,d32.symm,d42.symm,d43.symm,ao,encS]) ?_
  clear hm a1 a4 hn2 hn3 hn4
  rintro H2 ⟨f2,f4⟩
  simp only[ao,encS] at f2 f4
  simp (disch:=omega) only [↓wr,↓reduceIte,wq,ah,ag,al,aa,ae,af,ai,isNil,Nat.reduceEqDiff,Nat.reduceAdd,Nat.reduceLT,Nat.reduceLeDiff,Int.reduceNeg,Int.reduceToNat,reduceCtorEq,f2,f4,di]
  intro m hm
  have a4:m≠n2:=fun e=>by rw[e,f2] at hm; simp at hm
  have a1:m≠n4:=fun e=>by rw[e,f4] at hm; simp at hm
  try simp (disch:=omega) only [↓wr,↓reduceIte,wq,ah,ag,al,aa,ae,af,ai,isNil,Nat.reduceEqDiff,Nat.reduceAdd,Nat.reduceLT,Nat.reduceLeDiff,Int.reduceNeg,Int.reduceToNat,reduceCtorEq,f2,f4]
  have hc:=oc g2 k2 s2 [0,1,0,1] (by unfold aK; decide) (fun x hx=>by simp at hx; (try rcases hx with rfl | rfl | rfl | rfl); all_goals (try rcases hx with rfl | rfl | rfl); all_goals (try rcases hx with rfl | rfl); all_goals (try subst hx); all_goals (unfold bB; decide))
  rw[e2] at hc
  refine ax.mD (fun H=>H n2=.arr 4 [ao g1]∧H n4=.arr 4 [ao g2]) hc (by kernel_rfl) (ep _) ⟨bS.tree (bT _ (bH g2)),fp (l:=[0,1,0,1]) (by simp[View.set]) rfl,trivial⟩ (by simp[View.set,a1.symm,a4.symm,d32,d42,d43,d32.symm,d42.symm,d43.symm,ao,encS,f2,f4]) ?_
  clear hm a1 a4 f2 f4 H2
  rintro H2 ⟨f2,f4⟩
  simp only[ao,encS] at f2 f4
  simp (disch:=omega) only [↓wr,↓reduceIte,wq,ah,ag,al,aa,ae,af,ai,isNil,Nat.reduceEqDiff,Nat.reduceAdd,Nat.reduceLT,Nat.reduceLeDiff,Int.reduceNeg,Int.reduceToNat,reduceCtorEq,f2,f4,di]
  intro m hm
  have a4:m≠n2:=fun e=>by rw[e,f2] at hm; simp at hm
  have a1:m≠n4:=fun e=>by rw[e,f4] at hm; simp at hm
  try simp (disch:=omega) only [↓wr,↓reduceIte,wq,ah,ag,al,aa,ae,af,ai,isNil,Nat.reduceEqDiff,Nat.reduceAdd,Nat.reduceLT,Nat.reduceLeDiff,Int.reduceNeg,Int.reduceToNat,reduceCtorEq,f2,f4]
  have hc:=oc g2 k2 s2 [0,0] (by unfold aK; decide) (fun x hx=>by simp at hx; (try rcases hx with rfl | rfl | rfl | rfl); all_goals (try rcases hx with rfl | rfl | rfl); all_goals (try rcases hx with rfl | rfl); all_goals (try subst hx); all_goals (unfold bB; decide))
  rw[e3] at hc
  refine ax.mD (fun H=>H n2=.arr 4 [ao g1]∧H n4=.arr 4 [ao g2]) hc (by kernel_rfl) (ep _) ⟨bS.tree (bT _ (bH g2)),fp (l:=[0,0]) (by simp[View.set]) rfl,trivial⟩ (by simp[View.set,a1.symm,a4.symm,d32,d42,d43,d32.symm,d42.symm,d43.symm,ao,encS,f2,f4]) ?_
  clear hm a1 a4 f2 f4 H2
  rintro H2 ⟨f2,f4⟩
  simp only[ao,encS] at f2 f4
  simp (disch:=omega) only [↓wr,↓reduceIte,wq,ah,ag,al,aa,ae,af,ai,isNil,Nat.reduceEqDiff,Nat.reduceAdd,Nat.reduceLT,Nat.reduceLeDiff,Int.reduceNeg,Int.reduceToNat,reduceCtorEq,f2,f4,di]
  intro m hm
  have a4:m≠n2:=fun e=>by rw[e,f2] at hm; simp at hm
  have a1:m≠n4:=fun e=>by rw[e,f4] at hm; simp at hm
  try simp (disch:=omega) only [↓wr,↓reduceIte,wq,ah,ag,al,aa,ae,af,ai,isNil,Nat.reduceEqDiff,Nat.reduceAdd,Nat.reduceLT,Nat.reduceLeDiff,Int.reduceNeg,Int.reduceToNat,reduceCtorEq,f2,f4]
  have hc:=oC g2 k2 s2 [-1,1] (by unfold aK; decide) (fun x hx=>by simp at hx; (try rcases hx with rfl | rfl | rfl | rfl); all_goals (try rcases hx with rfl | rfl | rfl); all_goals (try rcases hx with rfl | rfl); all_goals (try subst hx); all_goals (unfold bB; decide))
  rw[e4] at hc
  refine ax.mD (fun H=>H n2=.arr 4 [ao g1]∧H n4=.arr 4 [ao g2]) hc (by kernel_rfl) (ep _) ⟨bS.tree (bT _ (bH g2)),fp (l:=[-1,1]) (by simp[View.set]) rfl,trivial⟩ (by simp[View.set,a1.symm,a4.symm,d32,d42,d43,d32.symm,d42.symm,d43.symm,ao,encS,f2,f4]) ?_
  clear hm a1 a4 f2 f4 H2
  rintro H2 ⟨f2,f4⟩
  simp only[ao,encS] at f2 f4
  simp (disch:=omega) only [↓wr,↓reduceIte,wq,ah,ag,al,aa,ae,af,ai,isNil,Nat.reduceEqDiff,Nat.reduceAdd,Nat.reduceLT,Nat.reduceLeDiff,Int.reduceNeg,Int.reduceToNat,reduceCtorEq,f2,f4,di]
  intro m hm
  have a4:m≠n2:=fun e=>by rw[e,f2] at hm; simp at hm
  have a1:m≠n4:=fun e=>by rw[e,f4] at hm; simp at hm
  try simp (disch:=omega) only [↓wr,↓reduceIte,wq,ah,ag,al,aa,ae,af,ai,isNil,Nat.reduceEqDiff,Nat.reduceAdd,Nat.reduceLT,Nat.reduceLeDiff,Int.reduceNeg,Int.reduceToNat,reduceCtorEq,f2,f4]
  have hc:=oC g2 k2 s2 [-1] (by unfold aK; decide) (fun x hx=>by simp at hx; (try rcases hx with rfl | rfl | rfl | rfl); all_goals (try rcases hx with rfl | rfl | rfl); all_goals (try rcases hx with rfl | rfl); all_goals (try subst hx); all_goals (unfold bB; decide))
  rw[e5] at hc
  refine ax.mD (fun H=>H n2=.arr 4 [ao g1]∧H n4=.arr 4 [ao g2]) hc (by kernel_rfl) (ep _) ⟨bS.tree (bT _ (bH g2)),fp (l:=[-1]) (by simp[View.set]) rfl,trivial⟩ (by simp[View.set,a1.symm,a4.symm,d32,d42,d43,d32.symm,d42.symm,d43.symm,ao,encS,f2,f4]) ?_
  clear hm a1 a4 f2 f4 H2
  rintro H2 ⟨f2,f4⟩
  simp only[ao,encS] at f2 f4
  simp (disch:=omega) only [↓wr,↓reduceIte,wq,ah,ag,al,aa,ae,af,ai,isNil,Nat.reduceEqDiff,Nat.reduceAdd,Nat.reduceLT,Nat.reduceLeDiff,Int.reduceNeg,Int.reduceToNat,reduceCtorEq,f2,f4,di]
  intro m hm
  have a4:m≠n2:=fun e=>by rw[e,f2] at hm; simp at hm
  have a1:m≠n4:=fun e=>by rw[e,f4] at hm; simp at hm
  try simp (disch:=omega) only [↓wr,↓reduceIte,wq,ah,ag,al,aa,ae,af,ai,isNil,Nat.reduceEqDiff,Nat.reduceAdd,Nat.reduceLT,Nat.reduceLeDiff,Int.reduceNeg,Int.reduceToNat,reduceCtorEq,f2,f4]
  have hc:=kM g2 k2 s2 [0,1,0] (by unfold aK; decide) (fun x hx=>by simp at hx; (try rcases hx with rfl | rfl | rfl | rfl); all_goals (try rcases hx with rfl | rfl | rfl); all_goals (try rcases hx with rfl | rfl); all_goals (try subst hx); all_goals (unfold bB; decide))
  rw[e6] at hc
  refine ax.mD (fun H=>H n2=.arr 4 [ao g1]∧H n4=.arr 4 [ao g2]) hc (by kernel_rfl) (ep _) ⟨bS.tree (bT _ (bH g2)),fp (l:=[0,1,0]) (by simp[View.set]) rfl,trivial⟩ (by simp[View.set,a1.symm,a4.symm,d32,d42,d43,d32.symm,d42.symm,d43.symm,ao,encS,f2,f4]) ?_
  clear hm a1 a4 f2 f4 H2
  rintro H2 ⟨f2,f4⟩
  simp only[ao,encS] at f2 f4
  simp (disch:=omega) only [↓wr,↓reduceIte,wq,ah,ag,al,aa,ae,af,ai,isNil,Nat.reduceEqDiff,Nat.reduceAdd,Nat.reduceLT,Nat.reduceLeDiff,Int.reduceNeg,Int.reduceToNat,reduceCtorEq,f2,f4,di]
  intro m hm
  have a4:m≠n2:=fun e=>by rw[e,f2] at hm; simp at hm
  have a1:m≠n4:=fun e=>by rw[e,f4] at hm; simp at hm
  try simp (disch:=omega) only [↓wr,↓reduceIte,wq,ah,ag,al,aa,ae,af,ai,isNil,Nat.reduceEqDiff,Nat.reduceAdd,Nat.reduceLT,Nat.reduceLeDiff,Int.reduceNeg,Int.reduceToNat,reduceCtorEq,f2,f4]
  have hc:=kM g2 k2 s2 [1] (by unfold aK; decide) (fun x hx=>by simp at hx; (try rcases hx with rfl | rfl | rfl | rfl); all_goals (try rcases hx with rfl | rfl | rfl); all_goals (try rcases hx with rfl | rfl); all_goals (try subst hx); all_goals (unfold bB; decide))
  rw[e7] at hc
  refine ax.mD (fun H=>H n2=.arr 4 [ao g1]∧H n4=.arr 4 [ao g2]) hc (by kernel_rfl) (ep _) ⟨bS.tree (bT _ (bH g2)),fp (l:=[1]) (by simp[View.set]) rfl,trivial⟩ (by simp[View.set,a1.symm,a4.symm,d32,d42,d43,d32.symm,d42.symm,d43.symm,ao,encS,f2,f4]) ?_
  clear hm a1 a4 f2 f4 H2
  rintro H2 ⟨f2,f4⟩
  simp only[ao,encS] at f2 f4
  simp (disch:=omega) only [↓wr,↓reduceIte,wq,ah,ag,al,aa,ae,af,ai,isNil,Nat.reduceEqDiff,Nat.reduceAdd,Nat.reduceLT,Nat.reduceLeDiff,Int.reduceNeg,Int.reduceToNat,reduceCtorEq,f2,f4,di]
  intro m hm
  have a4:m≠n2:=fun e=>by rw[e,f2] at hm; simp at hm
  have a1:m≠n4:=fun e=>by rw[e,f4] at hm; simp at hm
  try simp (disch:=omega) only [↓wr,↓reduceIte,wq,ah,ag,al,aa,ae,af,ai,isNil,Nat.reduceEqDiff,Nat.reduceAdd,Nat.reduceLT,Nat.reduceLeDiff,Int.reduceNeg,Int.reduceToNat,reduceCtorEq,f2,f4]
  have hc:=oc g1 k1 s1 [1] (by unfold aK; decide) (fun x hx=>by simp at hx; (try rcases hx with rfl | rfl | rfl | rfl); all_goals (try rcases hx with rfl | rfl | rfl); all_goals (try rcases hx with rfl | rfl); all_goals (try subst hx); all_goals (unfold bB; decide))
  rw[e8] at hc
  refine ax.mD (fun H=>H n2=.arr 4 [ao g1]∧H n4=.arr 4 [ao g2]) hc (by kernel_rfl) (ep _) ⟨bS.tree (bT _ (bH g1)),fp (l:=[1]) (by simp[View.set]) rfl,trivial⟩ (by simp[View.set,a1.symm,a4.symm,d32,d42,d43,d32.symm,d42.symm,d43.symm,ao,encS,f2,f4]) ?_
  clear hm a1 a4 f2 f4 H2
  rintro H2 ⟨f2,f4⟩
  simp only[ao,encS] at f2 f4
  simp (disch:=omega) only [↓wr,↓reduceIte,wq,ah,ag,al,aa,ae,af,ai,isNil,Nat.reduceEqDiff,Nat.reduceAdd,Nat.reduceLT,Nat.reduceLeDiff,Int.reduceNeg,Int.reduceToNat,reduceCtorEq,f2,f4,di]
  repeat' (first | (refine aq.eq (fun _=>?_) (fun hc=>absurd rfl hc)) | (refine aq.split (fun _=>?_) (fun e=>absurd e (by decide))) | simp (disch:=omega) only [↓wr,↓reduceIte,wq,ah,ag,al,aa,ae,af,ai,isNil,Nat.reduceEqDiff,Nat.reduceAdd,Nat.reduceLT,Nat.reduceLeDiff,Int.reduceNeg,Int.reduceToNat,reduceCtorEq])
  rfl
theorem nU:aC Tryz.prog 12 [] (gb true):=zD fE c4 HE Hr BQ BX JS JP Kq Ks Ki Km Kl Kk Kn Kr
end Gv
set_option linter.unusedSimpArgs false
set_option maxRecDepth 100000
namespace Gv
open Go Go.Proofs
def mT:SF:=⟨.seq (an [((some 2),.op (.ak (.val (.emp 1))))]) <|
  .seq (an [((some 3),.op (.ak (.val (.emp 2)))),aj 4 0,((some 5),.op (.app 1 8 (.tmp 3) (.tmp 4))),aj 2 5]) <|
  .ret,
  [.tmp 2],6⟩
theorem qp:aR Tryz.prog 14 []=some mT:=by kernel_rfl
theorem zl (l:List Int) (hl:l.length≤100000) (H:View):aB Tryz.prog 14 [encI l] H fun r H'=>bp H' r 1 (bF l)∧dG H H' r:=by
  refine aB.of mixed qp ?_
  simp (disch:=omega) only [↓wr,↓reduceIte,wq,ah,ag,al,aa,ae,af,ai,isNil,Nat.reduceEqDiff,Nat.reduceAdd,Nat.reduceLT,Nat.reduceLeDiff,Int.reduceNeg,Int.reduceToNat,reduceCtorEq,mT,encI]
  refine zr (H:=H) .nil (by simp[aN]) (by unfold aF; simp; omega) (by unfold aF; simp; omega) ?_
  intro u' H' ho hl'
  simp (disch:=omega) only [↓wr,↓reduceIte,wq,ah,ag,al,aa,ae,af,ai,isNil,Nat.reduceEqDiff,Nat.reduceAdd,Nat.reduceLT,Nat.reduceLeDiff,Int.reduceNeg,Int.reduceToNat,reduceCtorEq]
  exact ⟨ho,fun id hid=>hl' id hid (by simp[owner])⟩
structure au.Ku (g:au):Prop where
  aA:g.aA.length≤40
  ar:g.ar.length≤40
  rules:g.rules.length≤60
  right:∀ r∈g.rules,r.right.length≤20
end Gv
set_option linter.unusedSimpArgs false
set_option maxRecDepth 100000
namespace Gv
open Go Go.Proofs
theorem bS.Jv {H:View} {u:V} {l:List Int} (h:bp H u 1 (bF l)):bS H u (encI l):=bS.own h fun e he v hv=>by
  obtain ⟨x,_,rfl⟩:=List.mem_map.1 he
  simp at hv; subst hv; exact .val _
def gK:SF:=⟨.seq (an [da 2 0,bb 4 false]) <|
  .seq (.seq (an [aY 14 12 [],bP 15 14]) <|
  .cond (.tmp 15) (.seq (an [bb 4 false]) <|
  .ret) (.skip)) <|
  .seq (.seq (.region false [⟨none,[bo 16 4 2,aY 17 13 [16],aj 18 17]⟩,⟨(some (18,false)),[aj 19 1,aX 20 19,aH 21 .gtr 20 10,aj 22 21]⟩,⟨(some (22,true)),[aj 23 1,aX 24 23,aH 25 .lss 24 61]⟩,⟨(some (18,false)),[cx 26 22 25]⟩,⟨none,[bN 27 18 26,aj 28 27]⟩,⟨(some (28,false)),[aj 29 1,aX 30 29,aH 31 .gtr 30 70]⟩,⟨none,[bN 32 28 31]⟩]) <|
  .cond (.tmp 32) (.seq (an [bb 4 true]) <|
  .ret) (.skip)) <|
  .seq (an [aj 33 1,aY 34 14 [33],aj 5 34]) <|
  .seq (an [bo 36 4 2,aj 37 5,aY 38 15 [36,37],aj 35 38,ct 39 0 35,ct 40 1 35,aj 6 39,aj 7 40]) <|
  .seq (an [bo 42 4 2,aj 43 1,aY 44 16 [42,43],aj 41 44,ct 45 0 41,ct 46 1 41,aj 8 45,aj 9 46]) <|
  .seq (an [bo 48 4 2,aj 49 5,aY 50 17 [48,49],aj 47 50,ct 51 0 47,ct 52 1 47,aj 10 51,aj 11 52]) <|
  .seq (an [bo 54 4 2,aj 55 1,aY 56 18 [54,55],aj 53 56,ct 57 0 53,ct 58 1 53,aj 12 57,aj 13 58]) <|
  .seq (.region false [⟨none,[aj 59 6,aj 60 8,((some 61),.op (.beq true (.tmp 59) (.tmp 60))),aj 62 61]⟩,⟨(some (62,true)),[aj 63 7,aj 64 9,bu 65 .eql 63 64]⟩,⟨none,[cx 66 62 65,aj 67 66]⟩,⟨(some (67,true)),[aj 68 10,aj 69 12,((some 70),.op (.beq true (.tmp 68) (.tmp 69)))]⟩,⟨none,[cx 71 67 70,aj 72 71]⟩,⟨(some (72,true)),[aj 73 11,aj 74 13,bu 75 .eql 73 74]⟩,⟨none,[cx 76 72 75,aj 77 76]⟩,⟨(some (77,true)),[aj 78 5,aj 79 1,aY 80 19 [78,79]]⟩,⟨none,[cx 81 77 80,aj 4 81]⟩]) <|
  .ret,
  [.tmp 4],82⟩
theorem lN:aR Tryz.prog 3 [2]=some gK:=by kernel_rfl
def gp:SF:=⟨.seq (an [da 2 0,bb 4 false]) <|
  .seq (.seq (an [aY 9 12 [],bP 10 9]) <|
  .cond (.tmp 10) (.seq (an [bb 4 false]) <|
  .ret) (.skip)) <|
  .seq (.seq (.region false [⟨none,[bo 11 4 2,aY 12 13 [11],aj 13 12]⟩,⟨(some (13,false)),[aj 14 1,aX 15 14,aH 16 .gtr 15 8,aj 17 16]⟩,⟨(some (17,true)),[aj 18 1,aX 19 18,aH 20 .lss 19 61]⟩,⟨(some (13,false)),[cx 21 17 20]⟩,⟨none,[bN 22 13 21,aj 23 22]⟩,⟨(some (23,false)),[aj 24 1,aX 25 24,aH 26 .gtr 25 70]⟩,⟨none,[bN 27 23 26]⟩]) <|
  .cond (.tmp 27) (.seq (an [bb 4 true]) <|
  .ret) (.skip)) <|
  .seq (an [bo 29 4 2,aj 30 1,aY 31 20 [29,30],aj 28 31,ct 32 0 28,ct 33 1 28,aj 5 32,aj 6 33]) <|
  .seq (an [bo 35 4 2,aj 36 1,aY 37 21 [35,36],aj 34 37,ct 38 0 34,ct 39 1 34,aj 7 38,aj 8 39]) <|
  .seq (.region false [⟨none,[aj 40 5,aj 41 7,((some 42),.op (.beq true (.tmp 40) (.tmp 41))),aj 43 42]⟩,⟨(some (43,true)),[aj 44 6,aj 45 8,bu 46 .eql 44 45]⟩,⟨none,[cx 47 43 46,aj 4 47]⟩]) <|
  .ret,
  [.tmp 4],48⟩
theorem kY:aR Tryz.prog 4 [2]=some gp:=by kernel_rfl
set_option maxHeartbeats 2000000 in
theorem xX (g:au) (hg:g.Ok) (l:List Int) (hl:aK l) (hn:∀ x∈l,bB x):aC Tryz.prog 3 [.agg (ao g),encI l] (gb true):=by
  refine aC.val (fU g l) fun H=>?_
  refine aB.of mixed lN ?_
  have hl':=hl
  unfold aK at hl
  simp (disch:=omega) only [↓wr,↓reduceIte,wq,ah,ag,al,aa,ae,af,ai,isNil,Nat.reduceEqDiff,Nat.reduceAdd,Nat.reduceLT,Nat.reduceLeDiff,Int.reduceNeg,Int.reduceToNat,reduceCtorEq,gK,ao,encS]
  refine ax.pure nU (by kernel_rfl) ?_
  simp (disch:=omega) only [↓wr,↓reduceIte,wq,ah,ag,al,aa,ae,af,ai,isNil,Nat.reduceEqDiff,Nat.reduceAdd,Nat.reduceLT,Nat.reduceLeDiff,Int.reduceNeg,Int.reduceToNat,reduceCtorEq,ao,encS]
  refine ax.pure (rJ g) (by kernel_rfl) ?_
  simp (disch:=omega) only [↓wr,↓reduceIte,wq,ah,ag,al,aa,ae,af,ai,isNil,Nat.reduceEqDiff,Nat.reduceAdd,Nat.reduceLT,Nat.reduceLeDiff,Int.reduceNeg,Int.reduceToNat,reduceCtorEq]
  refine aq.split (fun e=>?_) (fun e=>?_)
  · simp (disch:=omega) only [↓wr,↓reduceIte,wq,ah,ag,al,aa,ae,af,ai,isNil,Nat.reduceEqDiff,Nat.reduceAdd,Nat.reduceLT,Nat.reduceLeDiff,Int.reduceNeg,Int.reduceToNat,reduceCtorEq]
  · have hs:g.Small:=lY e
    have hy:∃ a b,eY g l=(a,b):=⟨_,_,rfl⟩
    have hz:∃ a b,dw g l=(a,b):=⟨_,_,rfl⟩
    obtain ⟨ya,yb,hy⟩:=hy
    obtain ⟨za,zb,hz⟩:=hz
    have p1:=oc g hg hs l hl' hn
    have p2:=GW g hg l hl' hn
    have p3:=oC g hg hs l hl' hn
    have p4:=y3 g hg l hl' hn
    have pi:=Io l l hl'
    rw[hy] at p1 p2
    rw[hz] at p3 p4
    simp only[ao,encS,encI] at p1 p2 p3 p4 pi
    repeat' (first | (refine aq.dec (fun _=>?_) (fun _=>?_)) | (refine aq.eq (fun _=>?_) (fun _=>?_)) | (refine aq.ne (fun _=>?_) (fun _=>?_)) | (refine aq.split (fun _=>?_) (fun _=>?_)) | (simp (disch:=omega) only [↓wr,↓reduceIte,wq,ah,ag,al,aa,ae,af,ai,isNil,Nat.reduceEqDiff,Nat.reduceAdd,Nat.reduceLT,Nat.reduceLeDiff,Int.reduceNeg,Int.reduceToNat,reduceCtorEq,encI]))
    all_goals (refine ax.ez ((zl l (by omega) _).mono ?_))
    all_goals (
      rintro v H1 ⟨hv,_⟩
      have cv:=hv.cells
      have kv:=hv.lq
      have lg:bS H1 (.agg [.aV (g.aA.map cb),.aV (g.ar.map fun s=>[gs s]),.aV (g.rules.map aG),gi g.start]) (.agg [.aV (g.aA.map cb),.aV (g.ar.map fun s=>[gs s]),.aV (g.rules.map aG),gi g.start]):=bS.tree (bT _ (bH g))
      have lv:=bS.Jv hv
      simp (disch:=omega) only [↓wr,↓reduceIte,wq,ah,ag,al,aa,ae,af,ai,isNil,Nat.reduceEqDiff,Nat.reduceAdd,Nat.reduceLT,Nat.reduceLeDiff,Int.reduceNeg,Int.reduceToNat,reduceCtorEq,cv,kv,encI]
      refine ax.vt p1 (by kernel_rfl) (ep _) ⟨lg,lv,trivial⟩ ?_
      simp (disch:=omega) only [↓wr,↓reduceIte,wq,ah,ag,al,aa,ae,af,ai,isNil,Nat.reduceEqDiff,Nat.reduceAdd,Nat.reduceLT,Nat.reduceLeDiff,Int.reduceNeg,Int.reduceToNat,reduceCtorEq,di,cv,kv,encI]
      refine ax.pure p2 (by kernel_rfl) ?_
      simp (disch:=omega) only [↓wr,↓reduceIte,wq,ah,ag,al,aa,ae,af,ai,isNil,Nat.reduceEqDiff,Nat.reduceAdd,Nat.reduceLT,Nat.reduceLeDiff,Int.reduceNeg,Int.reduceToNat,reduceCtorEq,di,cv,kv,encI]
      refine ax.vt p3 (by kernel_rfl) (ep _) ⟨lg,lv,trivial⟩ ?_
      simp (disch:=omega) only [↓wr,↓reduceIte,wq,ah,ag,al,aa,ae,af,ai,isNil,Nat.reduceEqDiff,Nat.reduceAdd,Nat.reduceLT,Nat.reduceLeDiff,Int.reduceNeg,Int.reduceToNat,reduceCtorEq,di,cv,kv,encI]
      refine ax.pure p4 (by kernel_rfl) ?_
      simp (disch:=omega) only [↓wr,↓reduceIte,wq,ah,ag,al,aa,ae,af,ai,isNil,Nat.reduceEqDiff,Nat.reduceAdd,Nat.reduceLT,Nat.reduceLeDiff,Int.reduceNeg,Int.reduceToNat,reduceCtorEq,di,cv,kv,encI]
      refine aq.split (fun _=>?_) (fun e=>absurd e (by simp))
      simp (disch:=omega) only [↓wr,↓reduceIte,wq,ah,ag,al,aa,ae,af,ai,isNil,Nat.reduceEqDiff,Nat.reduceAdd,Nat.reduceLT,Nat.reduceLeDiff,Int.reduceNeg,Int.reduceToNat,reduceCtorEq,cv,kv]
      refine aq.eq (fun _=>?_) (fun hc=>absurd rfl hc)
      simp (disch:=omega) only [↓wr,↓reduceIte,wq,ah,ag,al,aa,ae,af,ai,isNil,Nat.reduceEqDiff,Nat.reduceAdd,Nat.reduceLT,Nat.reduceLeDiff,Int.reduceNeg,Int.reduceToNat,reduceCtorEq,cv,kv]
      refine aq.split (fun _=>?_) (fun e=>absurd e (by simp))
      simp (disch:=omega) only [↓wr,↓reduceIte,wq,ah,ag,al,aa,ae,af,ai,isNil,Nat.reduceEqDiff,Nat.reduceAdd,Nat.reduceLT,Nat.reduceLeDiff,Int.reduceNeg,Int.reduceToNat,reduceCtorEq,cv,kv]
      refine aq.eq (fun _=>?_) (fun hc=>absurd rfl hc)
      simp (disch:=omega) only [↓wr,↓reduceIte,wq,ah,ag,al,aa,ae,af,ai,isNil,Nat.reduceEqDiff,Nat.reduceAdd,Nat.reduceLT,Nat.reduceLeDiff,Int.reduceNeg,Int.reduceToNat,reduceCtorEq,cv,kv,encI]
      refine ax.vt pi (by kernel_rfl) (.val _) ⟨lv,bS.tree (cy l),trivial⟩ ?_
      simp (disch:=omega) only [↓wr,↓reduceIte,wq,ah,ag,al,aa,ae,af,ai,isNil,Nat.reduceEqDiff,Nat.reduceAdd,Nat.reduceLT,Nat.reduceLeDiff,Int.reduceNeg,Int.reduceToNat,reduceCtorEq]
      simp
      )
set_option maxHeartbeats 2000000 in
theorem wL (g:au) (hg:g.Ok) (l:List Int) (hl:aK l) (hn:∀ x∈l,bB x):aC Tryz.prog 4 [.agg (ao g),encI l] (gb true):=by
  refine aC.val (fU g l) fun H=>?_
  refine aB.of mixed kY ?_
  have hl':=hl
  unfold aK at hl
  simp (disch:=omega) only [↓wr,↓reduceIte,wq,ah,ag,al,aa,ae,af,ai,isNil,Nat.reduceEqDiff,Nat.reduceAdd,Nat.reduceLT,Nat.reduceLeDiff,Int.reduceNeg,Int.reduceToNat,reduceCtorEq,gp,ao,encS]
  refine ax.pure nU (by kernel_rfl) ?_
  simp (disch:=omega) only [↓wr,↓reduceIte,wq,ah,ag,al,aa,ae,af,ai,isNil,Nat.reduceEqDiff,Nat.reduceAdd,Nat.reduceLT,Nat.reduceLeDiff,Int.reduceNeg,Int.reduceToNat,reduceCtorEq,ao,encS]
  refine ax.pure (rJ g) (by kernel_rfl) ?_
  simp (disch:=omega) only [↓wr,↓reduceIte,wq,ah,ag,al,aa,ae,af,ai,isNil,Nat.reduceEqDiff,Nat.reduceAdd,Nat.reduceLT,Nat.reduceLeDiff,Int.reduceNeg,Int.reduceToNat,reduceCtorEq]
  refine aq.split (fun e=>?_) (fun e=>?_)
  · simp (disch:=omega) only [↓wr,↓reduceIte,wq,ah,ag,al,aa,ae,af,ai,isNil,Nat.reduceEqDiff,Nat.reduceAdd,Nat.reduceLT,Nat.reduceLeDiff,Int.reduceNeg,Int.reduceToNat,reduceCtorEq]
  · have hs:g.Small:=lY e
    have hy:∃ a b,bV g l=(a,b):=⟨_,_,rfl⟩
    obtain ⟨ya,yb,hy⟩:=hy
    have p1:=kM g hg hs l hl' hn
    have p2:=BU g hg l hl' hn
    rw[hy] at p1 p2
    simp only[ao,encS,encI] at p1 p2
    repeat' (first | (refine aq.dec (fun _=>?_) (fun _=>?_)) | (refine aq.eq (fun _=>?_) (fun _=>?_)) | (refine aq.ne (fun _=>?_) (fun _=>?_)) | (refine aq.split (fun _=>?_) (fun _=>?_)) | (simp (disch:=omega) only [↓wr,↓reduceIte,wq,ah,ag,al,aa,ae,af,ai,isNil,Nat.reduceEqDiff,Nat.reduceAdd,Nat.reduceLT,Nat.reduceLeDiff,Int.reduceNeg,Int.reduceToNat,reduceCtorEq,encI]))
    all_goals (
      refine ax.pure p1 (by kernel_rfl) ?_
      simp (disch:=omega) only [↓wr,↓reduceIte,wq,ah,ag,al,aa,ae,af,ai,isNil,Nat.reduceEqDiff,Nat.reduceAdd,Nat.reduceLT,Nat.reduceLeDiff,Int.reduceNeg,Int.reduceToNat,reduceCtorEq,di,encI]
      refine ax.pure p2 (by kernel_rfl) ?_
      simp (disch:=omega) only [↓wr,↓reduceIte,wq,ah,ag,al,aa,ae,af,ai,isNil,Nat.reduceEqDiff,Nat.reduceAdd,Nat.reduceLT,Nat.reduceLeDiff,Int.reduceNeg,Int.reduceToNat,reduceCtorEq,di]
      refine aq.split (fun _=>?_) (fun e=>absurd e (by simp))
      simp (disch:=omega) only [↓wr,↓reduceIte,wq,ah,ag,al,aa,ae,af,ai,isNil,Nat.reduceEqDiff,Nat.reduceAdd,Nat.reduceLT,Nat.reduceLeDiff,Int.reduceNeg,Int.reduceToNat,reduceCtorEq]
      simp)
end Gv
set_option linter.unusedSimpArgs false
namespace Gv
open Go Go.Proofs
theorem Dj {g:au} (hr:aM g=true) {p l:List Int} {i j:Nat} (h:Sp g p l i j):ca l (aw g true) true=true:=by
  induction h with
  | nil=>rfl
  | term s l i j h0 _ _ ih =>
    simp only[ca,List.all_cons,Bool.and_eq_true] at ih ⊢
    rw[if_pos h0]
    exact ⟨rfl,ih⟩
  | bY s l R i k j h0 hR hl _ _ ih1 ih2 =>
    have g1:=fL hr hR ih1
    rw[hl] at g1
    simp only[ca,List.all_cons,Bool.and_eq_true] at ih2 ⊢
    rw[if_neg (by omega)]
    exact ⟨g1,ih2⟩
section
variable {g r:au} {p q:List Bool} {o:List Int}
theorem dh.sp (h:dh g p q o r) {w l:List Int} {i j:Nat} (hs:Sp g w l i j):(∀ s∈l,s < 0→-1 - s∈o)→Sp r w (l.map fun s=>if s < 0 then -1 - aQ o (-1 - s) else s) i j:=by
  induction hs with
  | nil=>exact fun _=>.nil _
  | term s l i j h0 hf _ ih =>
    intro hl
    rw[List.map_cons,if_neg (by omega)]
    exact .term s _ i j h0 hf (ih fun s hs=>hl s (by simp[hs]))
  | bY s l R i k j h0 hR hle h1 _ ih1 ih2 =>
    intro hl
    have hso:=hl s (by simp) h0
    obtain ⟨R1,hR1,hk1,e1⟩:=h.from_ _ hso
    have hk:bq p q R=true:=by
      rw[bq,Bool.and_eq_true] at hk1 ⊢
      refine ⟨by rw[hle,← e1]; exact hk1.1,?_⟩
      rw[h.pe]
      exact Dj h.right h1
    have hin:=(h.kept R hR hk).2
    have hm:aT (aQ o) R∈r.rules:=by rw[h.rules]; exact List.mem_map.2 ⟨R,List.mem_filter.2 ⟨hR,hk⟩,rfl⟩
    have hb:=iw hso
    rw[List.map_cons,if_pos h0]
    exact .bY _ _ (aT (aQ o) R) i k j (by omega) hm (by simp only[aT]; rw[hle]; omega) (ih1 hin) (ih2 fun s hs=>hl s (by simp[hs]))
theorem dh.G0 (h:dh g p q o r) {w:List Int} {i j:Nat} (hs:Sp g w [-1 - g.start] i j):Sp r w [-1 - r.start] i j:=by
  have hf:=aJ h.right
  have h0:=hf.dR
  have:=h.sp hs (fun s hs _=>by
    simp at hs; subst hs
    rw[show -1 - (-1 - g.start)=g.start by omega]
    exact h.start)
  rw[List.map_cons,List.map_nil,if_pos (by omega),show -1 - (-1 - g.start)=g.start by omega,← h.xx] at this
  exact this
end
theorem Jj {g:au} (hr:aM g=true) {w:List Int} (h:Sp g w [-1 - g.start] 0 w.length):jc g w g.start 0:=by
  have h0:=(aJ hr).dR
  cases h with
  | term _ _ _ _ h1 _ _=>omega
  | bY _ _ R _ k _ h1 hR hl hsp hn =>
    cases hn
    have:=jc.full R R.right [] 0 hR (by simp) hsp
    rwa [show R.left=g.start by omega] at this
theorem Ff {g:au} {p:List Int} {k:Nat} (hk:k≤p.length) {l:List Int} {i j:Nat} (h:Sp g p l i j):i≤k→k≤j →
    (∃ l1 l2,l=l1 ++ l2∧Sp g (p.take k) l1 i k)∨(∃ l1 s l2 a,l=l1 ++ s :: l2∧s < 0∧Sp g (p.take k) l1 i a∧a < k∧jc g (p.take k) (-1 - s) a):=by
  induction h with
  | nil i =>
    intro h1 h2
    have:i=k:=by omega
    subst this
    exact .inl ⟨[],[],rfl,.nil _⟩
  | term s l i j h0 hf hs ih =>
    intro h1 h2
    by_cases e:i=k
    · subst e; exact .inl ⟨[],s :: l,rfl,.nil _⟩
    · have hf':eo (p.take k) i s:=by
        obtain ⟨c,hc,h3⟩:=hf
        exact ⟨c,by rw[List.getElem?_take,if_pos (by omega)]; exact hc,h3⟩
      rcases ih (by omega) h2 with ⟨l1,l2,e2,h3⟩ | ⟨l1,s',l2,a,e2,h3,h4,h5,h6⟩
      · exact .inl ⟨s :: l1,l2,by rw[e2]; rfl,.term s l1 i k h0 hf' h3⟩
      · exact .inr ⟨s :: l1,s',l2,a,by rw[e2]; rfl,h3,.term s l1 i a h0 hf' h4,h5,h6⟩
  | bY s l R i m j h0 hR hl hs1 hs2 ih1 ih2 =>
    intro h1 h2
    by_cases e:i=k
    · subst e; exact .inl ⟨[],s :: l,rfl,.nil _⟩
    · by_cases hm:m≤k
      · have c1:=hs1.cut (k:=k) hm
        rcases ih2 hm h2 with ⟨l1,l2,e2,h3⟩ | ⟨l1,s',l2,a,e2,h3,h4,h5,h6⟩
        · exact .inl ⟨s :: l1,l2,by rw[e2]; rfl,.bY s l1 R i m k h0 hR hl c1 h3⟩
        · exact .inr ⟨s :: l1,s',l2,a,by rw[e2]; rfl,h3,.bY s l1 R i m a h0 hR hl c1 h4,h5,h6⟩
      · have hlen:(p.take k).length=k:=by simp; omega
        refine .inr ⟨[],s,l,i,rfl,h0,.nil _,by omega,?_⟩
        rw[← hl]
        rcases ih1 h1 (by omega) with ⟨l1,l2,e2,h3⟩ | ⟨l1,s',l2,a,e2,h3,h4,h5,h6⟩
        · exact .full R l1 l2 i hR e2 (by rw[hlen]; exact h3)
        · exact .deep R l1 l2 s' i a hR e2 h3 h4 (by rw[hlen]; exact h5) h6
theorem jc.cut {g:au} {p:List Int} {k:Nat} (hk:k≤p.length) {n:Int} {f:Nat} (h:jc g p n f):f≤k→jc g (p.take k) n f:=by
  have hlen:(p.take k).length=k:=by simp; omega
  induction h with
  | full R l1 l2 f hR e hs =>
    intro hf
    rcases Ff hk hs hf hk with ⟨a1,a2,e2,h3⟩ | ⟨a1,s',a2,a,e2,h3,h4,h5,h6⟩
    · exact .full R a1 (a2 ++ l2) f hR (by rw[e,e2]; simp) (by rw[hlen]; exact h3)
    · exact .deep R a1 (a2 ++ l2) s' f a hR (by rw[e,e2]; simp) h3 h4 (by rw[hlen]; exact h5) h6
  | deep R l1 l2 s f a hR e h0 h1 h2 _ ih =>
    intro hf
    by_cases ha:a < k
    · exact .deep R l1 l2 s f a hR e h0 (h1.cut (by omega)) (by rw[hlen]; exact ha) (ih (by omega))
    · rcases Ff hk h1 hf (by omega) with ⟨a1,a2,e2,h3⟩ | ⟨a1,s',a2,b,e2,h3,h4,h5,h6⟩
      · exact .full R a1 (a2 ++ s :: l2) f hR (by rw[e,e2]; simp) (by rw[hlen]; exact h3)
      · exact .deep R a1 (a2 ++ s :: l2) s' f b hR (by rw[e,e2]; simp) h3 h4 (by rw[hlen]; exact h5) h6
theorem Sp.wide {g:au} {p p':List Int} (hp:∀ i s,eo p i s→eo p' i s) {l:List Int} {i j:Nat} (h:Sp g p l i j):Sp g p' l i j:=by
  induction h with
  | nil i=>exact .nil i
  | term s l i j h0 hf _ ih=>exact .term s l i j h0 (hp _ _ hf) ih
  | bY s l R i k j h0 hR hl _ _ ih1 ih2=>exact .bY s l R i k j h0 hR hl ih1 ih2
theorem GK {p:List Int} {k:Nat} (i:Nat) (s:Int) (h:eo p i s):eo (p.set k (-1)) i s:=by
  obtain ⟨c,hc,h2⟩:=h
  have hl:=(List.getElem?_eq_some_iff.1 hc).1
  by_cases e:k=i
  · subst e
    exact ⟨-1,by simp[hl],.inr rfl⟩
  · exact ⟨c,by rw[List.getElem?_set,if_neg e]; exact hc,h2⟩
end Gv
set_option linter.unusedSimpArgs false
set_option maxRecDepth 100000
namespace Gv
open Go Go.Proofs
theorem Bo (g:au) (l:List Int) (n:Int):∀ v∈[V.agg (ao g),encI l,.val (.int .u8 n)],Tree v:=by
  intro v hv; simp at hv
  rcases hv with rfl | rfl | rfl
  · exact bT _ (bH g)
  · exact cy l
  · exact .val _
theorem Fq {g:au} {p:List Int} {k:Nat} (h:(dw g p).2=0):(dw g (p.set k (-1))).2=0∧((dw g p).1=true→(dw g (p.set k (-1))).1=true):=by
  unfold dw at h
  split at h
  · rename_i hc
    have hc0:=hc
    simp only[Bool.and_eq_true,decide_eq_true_eq] at hc
    obtain ⟨⟨hr,hl⟩,hp⟩:=hc
    have hc':(aM g && decide ((p.set k (-1)).length≤60) && jJ g (p.set k (-1)))=true:=by
      simp only[Bool.and_eq_true,decide_eq_true_eq]
      refine ⟨⟨hr,by simpa using hl⟩,?_⟩
      unfold jJ at hp ⊢
      rw[List.all_eq_true] at hp ⊢
      intro x hx
      rcases List.mem_or_eq_of_mem_set hx with hx | rfl
      · exact hp x hx
      · simp; omega
    rw[dw,if_pos hc',dw,if_pos hc0]
    refine ⟨rfl,fun hf=>?_⟩
    simp only at hf ⊢
    rw[jD hr] at hf ⊢
    rw[List.length_set]
    exact hf.wide GK
  · simp at h
def gJ:SF:=⟨.seq (an [da 3 0,bb 6 false]) <|
  .seq (.seq (an [aY 12 12 [],bP 13 12]) <|
  .cond (.tmp 13) (.seq (an [bb 6 false]) <|
  .ret) (.skip)) <|
  .seq (.seq (.region false [⟨none,[bo 14 4 3,aY 15 13 [14],aj 16 15]⟩,⟨(some (16,false)),[aj 17 1,aX 18 17,aH 19 .gtr 18 10]⟩,⟨none,[bN 20 16 19,aj 21 20]⟩,⟨(some (21,false)),[aj 22 1,aX 23 22,aH 24 .eql 23 0]⟩,⟨none,[bN 25 21 24]⟩]) <|
  .cond (.tmp 25) (.seq (an [bb 6 true]) <|
  .ret) (.skip)) <|
  .seq (an [aj 26 1,aY 27 14 [26],aj 7 27]) <|
  .seq (an [aj 28 7,aj 29 2,((some 30),.op (.conv .i64 (.tmp 29))),aj 31 7,aX 32 31,bu 33 .rem 30 32,aW 34 1 28 33,(none,.op (.store 1 (.tmp 34) (.val (.val (.int .i64 (-1))))))]) <|
  .seq (an [bo 36 4 3,aj 37 1,aY 38 17 [36,37],aj 35 38,ct 39 0 35,ct 40 1 35,aj 8 39,aj 9 40]) <|
  .seq (an [bo 42 4 3,aj 43 7,aY 44 17 [42,43],aj 41 44,ct 45 0 41,ct 46 1 41,aj 10 45,aj 11 46]) <|
  .seq (.region false [⟨none,[aj 47 9,aH 48 .neq 47 0,aj 49 48]⟩,⟨(some (49,false)),[aj 50 11,aH 51 .eql 50 0,aj 52 51]⟩,⟨(some (52,true)),[aj 53 8,bP 54 53,aj 55 54]⟩,⟨(some (55,false)),[aj 56 10]⟩,⟨(some (52,true)),[bN 57 55 56]⟩,⟨(some (49,false)),[cx 58 52 57]⟩,⟨none,[bN 59 49 58,aj 6 59]⟩]) <|
  .ret,
  [.tmp 6],60⟩
theorem lJ:aR Tryz.prog 5 [3]=some gJ:=by kernel_rfl
set_option maxHeartbeats 4000000 in
theorem xN (g:au) (hg:g.Ok) (l:List Int) (hl:aK l) (hn:∀ x∈l,bB x) (n:Int) (hn0:0≤n) (hn1:n≤255):aC Tryz.prog 5 [.agg (ao g),encI l,.val (.int .u8 n)] (gb true):=by
  refine aC.val (Bo g l n) fun H=>?_
  refine aB.of mixed lJ ?_
  have hl':=hl
  unfold aK at hl
  simp (disch:=omega) only [↓wr,↓reduceIte,wq,ah,ag,al,aa,ae,af,ai,isNil,Nat.reduceEqDiff,Nat.reduceAdd,Nat.reduceLT,Nat.reduceLeDiff,Int.reduceNeg,Int.reduceToNat,reduceCtorEq,gJ,ao,encS]
  refine ax.pure nU (by kernel_rfl) ?_
  simp (disch:=omega) only [↓wr,↓reduceIte,wq,ah,ag,al,aa,ae,af,ai,isNil,Nat.reduceEqDiff,Nat.reduceAdd,Nat.reduceLT,Nat.reduceLeDiff,Int.reduceNeg,Int.reduceToNat,reduceCtorEq,ao,encS]
  refine ax.pure (rJ g) (by kernel_rfl) ?_
  simp (disch:=omega) only [↓wr,↓reduceIte,wq,ah,ag,al,aa,ae,af,ai,isNil,Nat.reduceEqDiff,Nat.reduceAdd,Nat.reduceLT,Nat.reduceLeDiff,Int.reduceNeg,Int.reduceToNat,reduceCtorEq]
  refine aq.split (fun e=>?_) (fun e=>?_)
  · simp (disch:=omega) only [↓wr,↓reduceIte,wq,ah,ag,al,aa,ae,af,ai,isNil,Nat.reduceEqDiff,Nat.reduceAdd,Nat.reduceLT,Nat.reduceLeDiff,Int.reduceNeg,Int.reduceToNat,reduceCtorEq]
  · have hs:g.Small:=lY e
    simp (disch:=omega) only [↓wr,↓reduceIte,wq,ah,ag,al,aa,ae,af,ai,isNil,Nat.reduceEqDiff,Nat.reduceAdd,Nat.reduceLT,Nat.reduceLeDiff,Int.reduceNeg,Int.reduceToNat,reduceCtorEq,encI]
    refine aq.dec (fun hc=>?_) (fun hc=>?_)
    · simp (disch:=omega) only [↓wr,↓reduceIte,wq,ah,ag,al,aa,ae,af,ai,isNil,Nat.reduceEqDiff,Nat.reduceAdd,Nat.reduceLT,Nat.reduceLeDiff,Int.reduceNeg,Int.reduceToNat,reduceCtorEq]
    · simp (disch:=omega) only [↓wr,↓reduceIte,wq,ah,ag,al,aa,ae,af,ai,isNil,Nat.reduceEqDiff,Nat.reduceAdd,Nat.reduceLT,Nat.reduceLeDiff,Int.reduceNeg,Int.reduceToNat,reduceCtorEq,encI]
      refine aq.eq (fun hz=>?_) (fun hz=>?_)
      · simp (disch:=omega) only [↓wr,↓reduceIte,wq,ah,ag,al,aa,ae,af,ai,isNil,Nat.reduceEqDiff,Nat.reduceAdd,Nat.reduceLT,Nat.reduceLeDiff,Int.reduceNeg,Int.reduceToNat,reduceCtorEq]
      · simp (disch:=omega) only [↓wr,↓reduceIte,wq,ah,ag,al,aa,ae,af,ai,isNil,Nat.reduceEqDiff,Nat.reduceAdd,Nat.reduceLT,Nat.reduceLeDiff,Int.reduceNeg,Int.reduceToNat,reduceCtorEq,encI]
        refine ax.ez ((zl l (by omega) _).mono ?_)
        rintro v H1 ⟨hv,_⟩
        obtain ⟨m,rfl,hm⟩:=hv.sl (by simp; omega)
        obtain ⟨k,hk,hkl⟩:∃ k:Nat,n.tmod (l.length:Int)=k∧k < l.length:=by
          have h1:=Int.tmod_nonneg (l.length:Int) hn0
          have h2:=Int.tmod_lt_of_pos n (show (0:Int) < (l.length:Int) by omega)
          exact ⟨(n.tmod (l.length:Int)).toNat,by omega,by omega⟩
        have hgk:(bF l).getD k []=[gi (l.getD k 0)]:=by simp[List.getD_eq_getElem?_getD,hkl]
        simp (disch:=omega) only [↓wr,↓reduceIte,wq,ah,ag,al,aa,ae,af,ai,isNil,Nat.reduceEqDiff,Nat.reduceAdd,Nat.reduceLT,Nat.reduceLeDiff,Int.reduceNeg,Int.reduceToNat,reduceCtorEq,encI]
        rw[if_neg (by omega),hk]
        simp (disch:=omega) only [↓wr,↓reduceIte,wq,ah,ag,al,aa,ae,af,ai,isNil,Nat.reduceEqDiff,Nat.reduceAdd,Nat.reduceLT,Nat.reduceLeDiff,Int.reduceNeg,Int.reduceToNat,reduceCtorEq,hm,hgk]
        refine ⟨by simpa using hkl,by simpa using hkl,?_⟩
        have hm2:(H1.set m (.arr 1 ((bF l).set k [gi (-1)]))) m=.arr 1 (bF (l.set k (-1))):=by
          simp only[View.set,if_true]; rw[EH]
        have ho2:bp (H1.set m (.arr 1 ((bF l).set k [gi (-1)]))) (.sl m 0 l.length 1) 1 (bF (l.set k (-1))):=.inr ⟨m,by simp,hm2⟩
        have p1:=oC g hg hs l hl' hn
        have p2:=oC g hg hs (l.set k (-1)) (by unfold aK at hl' ⊢; simpa using hl') (fun x hx=>by
          rcases List.mem_or_eq_of_mem_set hx with hx | rfl
          · exact hn x hx
          · unfold bB; decide)
        have hw:=Fq (g:=g) (p:=l) (k:=k)
        generalize dw g l=y at p1 hw
        generalize dw g (l.set k (-1))=z at p2 hw
        obtain ⟨y1,y2⟩:=y
        obtain ⟨z1,z2⟩:=z
        simp only at hw
        have lv:=bS.Jv ho2
        have lg:bS (H1.set m (.arr 1 ((bF l).set k [gi (-1)]))) (.agg [.aV (g.aA.map cb),.aV (g.ar.map fun s=>[gs s]),.aV (g.rules.map aG),gi g.start]) (.agg [.aV (g.aA.map cb),.aV (g.ar.map fun s=>[gs s]),.aV (g.rules.map aG),gi g.start]):=bS.tree (bT _ (bH g))
        simp only[ao,encS,encI] at p1 p2
        refine ax.pure p1 (by kernel_rfl) ?_
        simp (disch:=omega) only [↓wr,↓reduceIte,wq,ah,ag,al,aa,ae,af,ai,isNil,Nat.reduceEqDiff,Nat.reduceAdd,Nat.reduceLT,Nat.reduceLeDiff,Int.reduceNeg,Int.reduceToNat,reduceCtorEq,di]
        refine ax.vt p2 (by kernel_rfl) (ep _) ⟨lg,lv,trivial⟩ ?_
        simp (disch:=omega) only [↓wr,↓reduceIte,wq,ah,ag,al,aa,ae,af,ai,isNil,Nat.reduceEqDiff,Nat.reduceAdd,Nat.reduceLT,Nat.reduceLeDiff,Int.reduceNeg,Int.reduceToNat,reduceCtorEq,di]
        refine aq.ne (fun hy=>?_) (fun hy=>?_)
        · simp (disch:=omega) only [↓wr,↓reduceIte,wq,ah,ag,al,aa,ae,af,ai,isNil,Nat.reduceEqDiff,Nat.reduceAdd,Nat.reduceLT,Nat.reduceLeDiff,Int.reduceNeg,Int.reduceToNat,reduceCtorEq]
        · obtain ⟨w1,w2⟩:=hw hy
          subst w1
          simp (disch:=omega) only [↓wr,↓reduceIte,wq,ah,ag,al,aa,ae,af,ai,isNil,Nat.reduceEqDiff,Nat.reduceAdd,Nat.reduceLT,Nat.reduceLeDiff,Int.reduceNeg,Int.reduceToNat,reduceCtorEq]
          refine aq.eq (fun _=>?_) (fun hc=>absurd rfl hc)
          simp (disch:=omega) only [↓wr,↓reduceIte,wq,ah,ag,al,aa,ae,af,ai,isNil,Nat.reduceEqDiff,Nat.reduceAdd,Nat.reduceLT,Nat.reduceLeDiff,Int.reduceNeg,Int.reduceToNat,reduceCtorEq]
          refine aq.split (fun hy1=>?_) (fun hy1=>?_)
          · simp (disch:=omega) only [↓wr,↓reduceIte,wq,ah,ag,al,aa,ae,af,ai,isNil,Nat.reduceEqDiff,Nat.reduceAdd,Nat.reduceLT,Nat.reduceLeDiff,Int.reduceNeg,Int.reduceToNat,reduceCtorEq]
            rw[w2 (by simpa using hy1)]
          · simp (disch:=omega) only [↓wr,↓reduceIte,wq,ah,ag,al,aa,ae,af,ai,isNil,Nat.reduceEqDiff,Nat.reduceAdd,Nat.reduceLT,Nat.reduceLeDiff,Int.reduceNeg,Int.reduceToNat,reduceCtorEq]
theorem FC {g:au} {w:List Int} (h:du g w=true) (k:Nat):du g (w.take k)=true:=by
  simp only[du,Bool.and_eq_true,decide_eq_true_eq] at h ⊢
  refine ⟨⟨h.1.1,by simp; omega⟩,?_⟩
  have:=h.2
  unfold wa at this ⊢
  rw[List.all_eq_true] at this ⊢
  exact fun x hx=>this x (List.mem_of_mem_take hx)
theorem DM {g:au} {w:List Int} (h:du g w=true) (hf:fM g w=true):bV g w=(true,0):=by
  have hr:aM g=true:=by
    simp only[du,Bool.and_eq_true] at h
    exact h.1.1
  have hs:=(jD hr w).1 hf
  have h0:=(aJ hr).dR
  have hp:(aw g true).getD g.start.toNat false=true:=by
    have:=Dj hr hs
    simp only[ca,List.all_cons,List.all_nil,Bool.and_true] at this
    rw[if_neg (by omega)] at this
    rwa [show -1 - (-1 - g.start)=g.start by omega] at this
  have hred:=z8 hr hp
  have he:dk g=(eN g (aQ (br (aw g true) (aL g) g.rules)) (aw g true) (aL g),bK (aw g true) (aL g) g.rules 0,0):=by rw[e9 hr,if_pos hp]
  have hpre:=Jj hred.fy (hred.G0 hs)
  rw[bV,if_pos h,he]
  simp only[if_true]
  rw[lQ.2 hpre]
theorem B2 {g:au} {w:List Int} (h:du g w=true) {k:Nat} (hk:k≤w.length):∃ b c,bV g w=(b,0)∧bV g (w.take k)=(c,0)∧(b=true→c=true):=by
  rw[bV,if_pos h,bV,if_pos (FC h k)]
  split
  · refine ⟨_,_,rfl,rfl,fun hb=>?_⟩
    rw[lQ] at hb ⊢
    exact hb.cut hk (by omega)
  · exact ⟨_,_,rfl,rfl,fun hb=>by simp at hb⟩
def gu:SF:=⟨.seq (an [da 3 0,bb 6 false]) <|
  .seq (.seq (an [aY 14 12 [],bP 15 14]) <|
  .cond (.tmp 15) (.seq (an [bb 6 false]) <|
  .ret) (.skip)) <|
  .seq (.seq (.region false [⟨none,[bo 16 4 3,aY 17 13 [16],aj 18 17]⟩,⟨(some (18,false)),[aj 19 1,aX 20 19,aH 21 .gtr 20 10]⟩,⟨none,[bN 22 18 21]⟩]) <|
  .cond (.tmp 22) (.seq (an [bb 6 true]) <|
  .ret) (.skip)) <|
  .seq (an [aj 23 2,((some 24),.op (.conv .i64 (.tmp 23))),aj 25 1,aX 26 25,aH 27 .add 26 1,bu 28 .rem 24 27,aj 7 28]) <|
  .seq (an [bo 30 4 3,aj 31 1,aY 32 15 [30,31],aj 29 32,ct 33 0 29,ct 34 1 29,aj 8 33,aj 9 34]) <|
  .seq (an [bo 36 4 3,aj 37 1,aY 38 20 [36,37],aj 35 38,ct 39 0 35,ct 40 1 35,aj 10 39,aj 11 40]) <|
  .seq (an [bo 42 4 3,aj 43 1,aj 44 7,((some 45),.op (.slice 1 (.tmp 43) none (some (.tmp 44)))),aY 46 20 [42,45],aj 41 46,ct 47 0 41,ct 48 1 41,aj 12 47,aj 13 48]) <|
  .seq (.seq (an [aj 49 9,aH 50 .neq 49 0]) <|
  .cond (.tmp 50) (.seq (an [aj 51 11,aj 52 9,bu 53 .eql 51 52,aj 6 53]) <|
  .ret) (.skip)) <|
  .seq (.region false [⟨none,[aj 54 11,aH 55 .eql 54 0,aj 56 55]⟩,⟨(some (56,true)),[aj 57 13,aH 58 .eql 57 0]⟩,⟨none,[cx 59 56 58,aj 60 59]⟩,⟨(some (60,true)),[aj 61 8,bP 62 61,aj 63 62]⟩,⟨(some (63,false)),[aj 64 10]⟩,⟨(some (60,true)),[bN 65 63 64]⟩,⟨none,[cx 66 60 65,aj 67 66]⟩,⟨(some (67,true)),[aj 68 10,bP 69 68,aj 70 69]⟩,⟨(some (70,false)),[aj 71 12]⟩,⟨(some (67,true)),[bN 72 70 71]⟩,⟨none,[cx 73 67 72,aj 6 73]⟩]) <|
  .ret,
  [.tmp 6],74⟩
theorem k5:aR Tryz.prog 6 [3]=some gu:=by kernel_rfl
set_option maxHeartbeats 4000000 in
theorem xj (g:au) (hg:g.Ok) (l:List Int) (hl:aK l) (hn:∀ x∈l,bB x) (n:Int) (hn0:0≤n) (hn1:n≤255):aC Tryz.prog 6 [.agg (ao g),encI l,.val (.int .u8 n)] (gb true):=by
  refine aC.val (Bo g l n) fun H=>?_
  refine aB.of mixed k5 ?_
  have hl':=hl
  unfold aK at hl
  simp (disch:=omega) only [↓wr,↓reduceIte,wq,ah,ag,al,aa,ae,af,ai,isNil,Nat.reduceEqDiff,Nat.reduceAdd,Nat.reduceLT,Nat.reduceLeDiff,Int.reduceNeg,Int.reduceToNat,reduceCtorEq,gu,ao,encS]
  refine ax.pure nU (by kernel_rfl) ?_
  simp (disch:=omega) only [↓wr,↓reduceIte,wq,ah,ag,al,aa,ae,af,ai,isNil,Nat.reduceEqDiff,Nat.reduceAdd,Nat.reduceLT,Nat.reduceLeDiff,Int.reduceNeg,Int.reduceToNat,reduceCtorEq,ao,encS]
  refine ax.pure (rJ g) (by kernel_rfl) ?_
  simp (disch:=omega) only [↓wr,↓reduceIte,wq,ah,ag,al,aa,ae,af,ai,isNil,Nat.reduceEqDiff,Nat.reduceAdd,Nat.reduceLT,Nat.reduceLeDiff,Int.reduceNeg,Int.reduceToNat,reduceCtorEq]
  refine aq.split (fun e=>?_) (fun e=>?_)
  · simp (disch:=omega) only [↓wr,↓reduceIte,wq,ah,ag,al,aa,ae,af,ai,isNil,Nat.reduceEqDiff,Nat.reduceAdd,Nat.reduceLT,Nat.reduceLeDiff,Int.reduceNeg,Int.reduceToNat,reduceCtorEq]
  · have hs:g.Small:=lY e
    simp (disch:=omega) only [↓wr,↓reduceIte,wq,ah,ag,al,aa,ae,af,ai,isNil,Nat.reduceEqDiff,Nat.reduceAdd,Nat.reduceLT,Nat.reduceLeDiff,Int.reduceNeg,Int.reduceToNat,reduceCtorEq,encI]
    refine aq.dec (fun hc=>?_) (fun hc=>?_)
    · simp (disch:=omega) only [↓wr,↓reduceIte,wq,ah,ag,al,aa,ae,af,ai,isNil,Nat.reduceEqDiff,Nat.reduceAdd,Nat.reduceLT,Nat.reduceLeDiff,Int.reduceNeg,Int.reduceToNat,reduceCtorEq]
    · simp (disch:=omega) only [↓wr,↓reduceIte,wq,ah,ag,al,aa,ae,af,ai,isNil,Nat.reduceEqDiff,Nat.reduceAdd,Nat.reduceLT,Nat.reduceLeDiff,Int.reduceNeg,Int.reduceToNat,reduceCtorEq,encI]
      obtain ⟨k,hk,hkl⟩:∃ k:Nat,n.tmod ((l.length:Int)+1)=k∧k≤l.length:=by
        have h1:=Int.tmod_nonneg ((l.length:Int)+1) hn0
        have h2:=Int.tmod_lt_of_pos n (show (0:Int) < (l.length:Int)+1 by omega)
        exact ⟨(n.tmod ((l.length:Int)+1)).toNat,by omega,by omega⟩
      rw[if_neg (by omega),hk]
      have p1:=oc g hg hs l hl' hn
      have p2:=kM g hg hs l hl' hn
      have p3:=kM g hg hs (l.take k) (by unfold aK; simp; omega) (fun x hx=>hn x (List.mem_of_mem_take hx))
      have hst:=wA (l:=l) (k:=k) hkl
      simp only[ao,encS,encI] at p1 p2 p3
      simp (disch:=omega) only [↓wr,↓reduceIte,wq,ah,ag,al,aa,ae,af,ai,isNil,Nat.reduceEqDiff,Nat.reduceAdd,Nat.reduceLT,Nat.reduceLeDiff,Int.reduceNeg,Int.reduceToNat,reduceCtorEq,encI,ao,encS]
      refine ax.pure p1 (by kernel_rfl) ?_
      by_cases hw:du g l=true
      · obtain ⟨b,c,q1,q2,q3⟩:=B2 hw hkl
        have h1:eY g l=(fM g l,0):=by rw[eY,if_pos hw]
        have q4:fM g l=true→b=true:=fun h=>by
          have:=DM hw h
          rw[q1] at this
          simpa using this
        rw[h1]
        rw[q1] at p2
        rw[q2] at p3
        generalize fM g l=a at q4 ⊢
        simp (disch:=omega) only [↓wr,↓reduceIte,wq,ah,ag,al,aa,ae,af,ai,isNil,Nat.reduceEqDiff,Nat.reduceAdd,Nat.reduceLT,Nat.reduceLeDiff,Int.reduceNeg,Int.reduceToNat,reduceCtorEq,di,encI]
        refine ax.pure p2 (by kernel_rfl) ?_
        simp (disch:=omega) only [↓wr,↓reduceIte,wq,ah,ag,al,aa,ae,af,ai,isNil,Nat.reduceEqDiff,Nat.reduceAdd,Nat.reduceLT,Nat.reduceLeDiff,Int.reduceNeg,Int.reduceToNat,reduceCtorEq,di,encI,hst]
        refine ax.pure p3 (by kernel_rfl) ?_
        simp (disch:=omega) only [↓wr,↓reduceIte,wq,ah,ag,al,aa,ae,af,ai,isNil,Nat.reduceEqDiff,Nat.reduceAdd,Nat.reduceLT,Nat.reduceLeDiff,Int.reduceNeg,Int.reduceToNat,reduceCtorEq,di]
        cases a <;> cases b <;> cases c <;> (try exact absurd (q3 rfl) (by decide)) <;> (try exact absurd (q4 rfl) (by decide))
        all_goals repeat' (first | (refine aq.ne (fun hx=>absurd rfl hx) (fun _=>?_)) | (refine aq.eq (fun _=>?_) (fun hx=>absurd rfl hx)) | simp (disch:=omega) only [↓wr,↓reduceIte,wq,ah,ag,al,aa,ae,af,ai,isNil,Nat.reduceEqDiff,Nat.reduceAdd,Nat.reduceLT,Nat.reduceLeDiff,Int.reduceNeg,Int.reduceToNat,reduceCtorEq])
        all_goals rfl
      · have h1:eY g l=(false,1):=by rw[eY,if_neg hw]
        have h2:bV g l=(false,1):=by rw[bV,if_neg hw]
        rw[h1]
        rw[h2] at p2
        generalize bV g (l.take k)=y at p3
        obtain ⟨y1,y2⟩:=y
        simp (disch:=omega) only [↓wr,↓reduceIte,wq,ah,ag,al,aa,ae,af,ai,isNil,Nat.reduceEqDiff,Nat.reduceAdd,Nat.reduceLT,Nat.reduceLeDiff,Int.reduceNeg,Int.reduceToNat,reduceCtorEq,di,encI]
        refine ax.pure p2 (by kernel_rfl) ?_
        simp (disch:=omega) only [↓wr,↓reduceIte,wq,ah,ag,al,aa,ae,af,ai,isNil,Nat.reduceEqDiff,Nat.reduceAdd,Nat.reduceLT,Nat.reduceLeDiff,Int.reduceNeg,Int.reduceToNat,reduceCtorEq,di,encI,hst]
        refine ax.pure p3 (by kernel_rfl) ?_
        simp (disch:=omega) only [↓wr,↓reduceIte,wq,ah,ag,al,aa,ae,af,ai,isNil,Nat.reduceEqDiff,Nat.reduceAdd,Nat.reduceLT,Nat.reduceLeDiff,Int.reduceNeg,Int.reduceToNat,reduceCtorEq,di]
        refine aq.ne (fun _=>?_) (fun hx=>absurd hx (by decide))
        simp (disch:=omega) only [↓wr,↓reduceIte,wq,ah,ag,al,aa,ae,af,ai,isNil,Nat.reduceEqDiff,Nat.reduceAdd,Nat.reduceLT,Nat.reduceLeDiff,Int.reduceNeg,Int.reduceToNat,reduceCtorEq]
        rfl
end Gv
