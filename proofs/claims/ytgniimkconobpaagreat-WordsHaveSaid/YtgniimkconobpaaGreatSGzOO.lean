/-
  Part 15 of the proof: what the machine does and what the functions answer.
  Conditions: those that each lemma names.
-/
import Derived.Test.YtgniimkconobpaaGreatSGzON
set_option linter.unusedSimpArgs false
set_option linter.unusedVariables false
set_option linter.unusedSimpArgs false
set_option maxRecDepth 100000
namespace Gv
open Go Go.Proofs
theorem vh {g:au} {n b:Int} (h:(b6 g n b).2=0):ib g n b=true∧(b6 g n b).1=gw (cF g) g.aw.length n.toNat []∧((b6 g n b).1.length:Int)≤b:=by
  unfold b6 at h ⊢
  split at h
  · rename_i hm
    rw[if_pos hm]
    obtain ⟨l,h1,h2,_⟩:=mY (fit:=cF g) (T:=g.aw.length) (b:=b.toNat) n.toNat [] []
    rw[List.nil_append] at h1
    simp only at h ⊢
    split at h
    · simp at h
    · rename_i hl
      rw[if_neg hl]
      have hl2:(bH (cF g) g.aw.length b.toNat n.toNat [] []).length≤b.toNat:=by omega
      refine ⟨hm,h1.trans (h2 hl2),?_⟩
      simp only[ib,Bool.and_eq_true,decide_eq_true_eq] at hm
      simp only
      omega
  · simp at h
theorem uT {g:au} {n b:Int} (h:(b6 g n b).2≠0):(b6 g n b).1=[]:=by
  unfold b6 at h ⊢
  split at h
  · rename_i hm
    rw[if_pos hm]
    simp only at h ⊢
    split at h
    · rename_i hl
      rw[if_pos hl]
    · simp at h
  · rename_i hm
    rw[if_neg hm]
theorem ym (g:au) (b:Nat):∀ n,(dY g b n).length≤b→∀ w∈dY g b n,w.length≤n
  | 0,_,w,hw=>by simp[dY] at hw
  | n+1,hl,w,hw=>by
    rw[dY] at hl hw
    obtain ⟨l,h1,h2,_⟩:=mY (fit:=cF g) (T:=g.aw.length) (b:=b) n [] (dY g b n)
    have h3:=h2 hl
    rw[h1] at hl hw
    rw[List.length_append] at hl
    rcases List.mem_append.1 hw with hw | hw
    · have:=ym g b n (by omega) w hw
      omega
    · rw[h3] at hw
      obtain ⟨_,s,rfl,hs,_⟩:=iL _ _ _ hw
      simp; omega
theorem oT (g:au) (n b:Int):aL (b6 g n b).1∧∀ w∈(b6 g n b).1,aL w:=by
  by_cases h:(b6 g n b).2=0
  · obtain ⟨h1,h2,h3⟩:=vh h
    simp only[ib,Bool.and_eq_true,decide_eq_true_eq] at h1
    refine ⟨by unfold aL; omega,fun w hw=>?_⟩
    rw[h2] at hw
    obtain ⟨_,s,rfl,hs,_⟩:=iL _ _ _ hw
    unfold aL
    try simp
    omega
  · rw[uT h]
    exact ⟨by unfold aL; simp,by simp⟩
theorem uz (g:au) (n b:Int):aL (eT g n b).1∧∀ w∈(eT g n b).1,aL w:=by
  unfold eT
  split
  · rename_i hm
    simp only[ib,Bool.and_eq_true,decide_eq_true_eq] at hm
    simp only
    split
    · exact ⟨by unfold aL; simp,by simp⟩
    · rename_i hl
      refine ⟨by unfold aL; simp only; omega,fun w hw=>?_⟩
      have:=ym g _ _ (by omega) w hw
      unfold aL
      omega
  · exact ⟨by unfold aL; simp,by simp⟩
theorem Il {g:au} (hr:aT g=true) (h s:List Int) (hf:cF g (h ++ s)=true):cF g (pad h s.length)=true:=by
  have hl:(pad h s.length).length=(h ++ s).length:=by simp[pad]
  rw[qU hr] at hf ⊢
  rw[hl]
  exact hf.wide GC
theorem aU {g:au} (hg:g.Ok) {n:Nat} {w:List Int} (hr:aT g=true) (hn:n≤10) (hw:w∈gw (cF g) g.aw.length n []):pC g w=(true,0)∧w.length=n∧aL w∧∀ x∈w,bJ x:=by
  obtain ⟨h1,s,e,hs,hx⟩:=iL _ _ _ hw
  rw[List.nil_append] at e
  subst e
  refine ⟨?_,hs,by unfold aL; omega,fun x hx'=>?_⟩
  · rw[pC,if_pos,h1]
    simp only[gW,Bool.and_eq_true,decide_eq_true_eq]
    refine ⟨⟨hr,by omega⟩,?_⟩
    unfold uW
    rw[List.all_eq_true]
    intro x hx'
    have:=hx x hx'
    simpa using this
  · have:=hx x hx'
    have hgt:=hg.aw
    unfold aL at hgt
    unfold bJ
    omega
theorem C6 {g:au} {w:List Int} (h:gW g w=true):cF g w=true↔w∈gw (cF g) g.aw.length w.length []:=by
  have hwb:=h
  simp only[gW,Bool.and_eq_true,decide_eq_true_eq] at hwb
  refine ⟨fun hf=>?_,fun hm=>(iL _ _ _ hm).1⟩
  have:=A6 (T:=g.aw.length) (fun a s ha=>Il hwb.1.1 a s ha) w.length [] w rfl (fun x hx=>by
    have:=List.all_eq_true.1 hwb.2 x hx
    simpa using this) (by simpa using hf)
  simpa using this
def g8:SF:=⟨.seq (al [b7 2 0,b7 3 1,aP 4 false]) <|
  .seq (.seq (al [aF 9 22 [],bQ 10 9]) <|
  .cond (.tmp 10) (.seq (al [aP 4 false]) <|
  .ret) (.skip)) <|
  .seq (.seq (.region false [⟨none,[aO 11 4 2,aF 12 13 [11],aa 13 12]⟩,⟨(some (13,false)),[aO 14 2 3,aF 15 23 [14]]⟩,⟨none,[bf 16 13 15]⟩]) <|
  .cond (.tmp 16) (.seq (al [aP 4 true]) <|
  .ret) (.skip)) <|
  .seq (al [aO 18 4 2,aq 19 0 3,ao 20 19,aq 21 1 3,ao 22 21,aF 23 24 [18,20,22],aa 17 23,bK 24 0 17,bK 25 1 17,aa 5 24,aa 6 25]) <|
  .seq (al [aO 27 4 2,aq 28 0 3,ao 29 28,aq 30 1 3,ao 31 30,aF 32 25 [27,29,31],aa 26 32,bK 33 0 26,bK 34 1 26,aa 7 33,aa 8 34]) <|
  .seq (.region false [⟨none,[aa 35 5,aa 36 7,aF 37 26 [35,36],aa 38 37]⟩,⟨(some (38,true)),[aa 39 6,aa 40 8,aK 41 .eql 39 40]⟩,⟨none,[bk 42 38 41,aa 4 42]⟩]) <|
  .ret,
  [.tmp 4],43⟩
theorem mn:aR Tryz.prog 7 [2,3]=some g8:=by kernel_rfl
def g9:SF:=⟨.seq (al [b7 2 0,b7 3 1,aP 4 false]) <|
  .seq (.seq (al [aF 10 22 [],bQ 11 10]) <|
  .cond (.tmp 11) (.seq (al [aP 4 false]) <|
  .ret) (.skip)) <|
  .seq (.seq (.region false [⟨none,[aO 12 4 2,aF 13 13 [12],aa 14 13]⟩,⟨(some (14,false)),[aO 15 2 3,aF 16 23 [15]]⟩,⟨none,[bf 17 14 16,aa 18 17]⟩,⟨(some (18,false)),[aq 19 0 3,ao 20 19,ax 21 .gtr 20 3,aa 22 21]⟩,⟨(some (22,true)),[aq 23 0 3,ao 24 23,ax 25 .leq 24 10]⟩,⟨(some (18,false)),[bk 26 22 25]⟩,⟨none,[bf 27 18 26]⟩]) <|
  .cond (.tmp 27) (.seq (al [aP 4 true]) <|
  .ret) (.skip)) <|
  .seq (al [aO 28 4 2,aF 29 27 [28],((some 5),.op (.alloc [(.emp 1),(.emp 1),(.emp 1),(.val (.int .i64 0))])),(none,.op (.store 4 (.tmp 5) (.tmp 29)))]) <|
  .seq (al [aO 31 4 5,aq 32 0 3,ao 33 32,aq 34 1 3,ao 35 34,aF 36 28 [31,33,35],aa 30 36,bK 37 0 30,bK 38 1 30,aa 6 37,aa 7 38]) <|
  .seq (al [aO 40 4 2,aq 41 0 3,ao 42 41,aq 43 1 3,ao 44 43,aF 45 29 [40,42,44],aa 39 45,bK 46 0 39,bK 47 1 39,aa 8 46,aa 9 47]) <|
  .seq (.region false [⟨none,[aa 48 6,aa 49 8,aF 50 26 [48,49],aa 51 50]⟩,⟨(some (51,true)),[aa 52 7,aa 53 9,aK 54 .eql 52 53]⟩,⟨none,[bk 55 51 54,aa 56 55]⟩,⟨(some (56,true)),[aO 57 4 5,aO 58 4 2,aF 59 30 [57,58]]⟩,⟨none,[bk 60 56 59,aa 4 60]⟩]) <|
  .ret,
  [.tmp 4],61⟩
theorem mD:aR Tryz.prog 8 [2,3]=some g9:=by kernel_rfl
def gx:SC :=
  .seq (.seq (al [aa 32 7,aa 33 5,aI 34 33,aK 35 .lss 32 34]) <|
  .cond (.tmp 35) (.skip) (.exit 0)) <|
  .seq (.block 1 (.seq (al [aO 39 4 2,aa 40 5,aa 41 7,aX 42 1 40 41,ao 43 42,aF 44 16 [39,43],aa 38 44,bK 45 0 38,bK 46 1 38,aa 8 45,aa 9 46]) <|
  .seq (.region false [⟨none,[aa 47 8,bQ 48 47,aa 49 48]⟩,⟨(some (49,false)),[aa 50 9,ax 51 .neq 50 0]⟩,⟨none,[bf 52 49 51,aa 53 52]⟩,⟨(some (53,false)),[aa 54 5,aa 55 7,aX 56 1 54 55,ao 57 56,aI 58 57,aq 59 0 3,ao 60 59,aK 61 .neq 58 60]⟩,⟨none,[bf 62 53 61,aa 63 62]⟩,⟨(some (63,false)),[aa 64 7,ax 65 .gtr 64 0,aa 66 65]⟩,⟨(some (66,true)),[aa 67 5,aa 68 7,ax 69 .sub 68 1,aX 70 1 67 69,ao 71 70,aa 72 5,aa 73 7,aX 74 1 72 73,ao 75 74,aF 76 31 [71,75],bQ 77 76]⟩,⟨(some (63,false)),[bk 78 66 77]⟩,⟨none,[bf 79 63 78]⟩]) <|
  .cond (.tmp 79) (.seq (al [aP 4 false]) <|
  .ret) (.skip))) <|
  al [aa 36 7,ax 37 .add 36 1,aa 7 37]
def iz:SF:=⟨.seq (al [b7 2 0,b7 3 1,aP 4 false]) <|
  .seq (.seq (al [aF 10 22 [],bQ 11 10]) <|
  .cond (.tmp 11) (.seq (al [aP 4 false]) <|
  .ret) (.skip)) <|
  .seq (.seq (.region false [⟨none,[aO 12 4 2,aF 13 13 [12],aa 14 13]⟩,⟨(some (14,false)),[aO 15 2 3,aF 16 23 [15]]⟩,⟨none,[bf 17 14 16]⟩]) <|
  .cond (.tmp 17) (.seq (al [aP 4 true]) <|
  .ret) (.skip)) <|
  .seq (al [aO 19 4 2,aq 20 0 3,ao 21 20,aq 22 1 3,ao 23 22,aF 24 24 [19,21,23],aa 18 24,bK 25 0 18,bK 26 1 18,aa 5 25,aa 6 26]) <|
  .seq (.seq (al [aa 27 6,ax 28 .neq 27 0]) <|
  .cond (.tmp 28) (.seq (al [aa 29 5,aI 30 29,ax 31 .eql 30 0,aa 4 31]) <|
  .ret) (.skip)) <|
  .seq (.seq (al [aG 7 0]) <|
  .block 0 (.loop gx)) <|
  .seq (al [aa 80 5,aI 81 80,aq 82 1 3,ao 83 82,aK 84 .leq 81 83,aa 4 84]) <|
  .ret,
  [.tmp 4],85⟩
theorem nk:aR Tryz.prog 9 [2,3]=some iz:=by kernel_rfl
def fL:SC :=
  .seq (.seq (al [aa 51 12,aa 52 9,aI 53 52,aK 54 .lss 51 53]) <|
  .cond (.tmp 54) (.skip) (.exit 0)) <|
  .seq (.block 1 (.region false [⟨none,[aa 57 11,aa 58 57]⟩,⟨(some (58,false)),[aa 59 9,aa 60 12,aX 61 1 59 60,ao 62 61,aa 63 1,aF 64 19 [62,63]]⟩,⟨none,[bf 65 58 64,aa 11 65]⟩])) <|
  al [aa 55 12,ax 56 .add 55 1,aa 12 56]
def hU:SF:=⟨.seq (al [b7 3 0,aP 6 false]) <|
  .seq (.seq (al [aF 13 22 [],bQ 14 13]) <|
  .cond (.tmp 14) (.seq (al [aP 6 false]) <|
  .ret) (.skip)) <|
  .seq (.seq (.region false [⟨none,[aO 15 4 3,aF 16 13 [15],aa 17 16]⟩,⟨(some (17,false)),[aa 18 1,aI 19 18,ax 20 .gtr 19 5]⟩,⟨none,[bf 21 17 20]⟩]) <|
  .cond (.tmp 21) (.seq (al [aP 6 true]) <|
  .ret) (.skip)) <|
  .seq (al [aO 23 4 3,aa 24 1,aF 25 16 [23,24],aa 22 25,bK 26 0 22,bK 27 1 22,aa 7 26,aa 8 27]) <|
  .seq (al [aO 29 4 3,aa 30 1,aI 31 30,aa 32 2,((some 33),.op (.conv .i64 (.tmp 32))),ax 34 .rem 33 41,aF 35 24 [29,31,34],aa 28 35,bK 36 0 28,bK 37 1 28,aa 9 36,aa 10 37]) <|
  .seq (.seq (.region false [⟨none,[aa 38 8,ax 39 .neq 38 0,aa 40 39]⟩,⟨(some (40,false)),[aa 41 10,ax 42 .neq 41 0]⟩,⟨none,[bf 43 40 42]⟩]) <|
  .cond (.tmp 43) (.seq (.region false [⟨none,[aa 44 9,aI 45 44,ax 46 .eql 45 0,aa 47 46]⟩,⟨(some (47,false)),[aa 48 8,ax 49 .neq 48 0]⟩,⟨none,[bf 50 47 49,aa 6 50]⟩]) <|
  .ret) (.skip)) <|
  .seq (al [aP 11 false]) <|
  .seq (.seq (al [aG 12 0]) <|
  .block 0 (.loop fL)) <|
  .seq (al [aa 66 11,aa 67 7,((some 68),.op (.beq true (.tmp 66) (.tmp 67))),aa 6 68]) <|
  .ret,
  [.tmp 6],69⟩
theorem mz:aR Tryz.prog 10 [3]=some hU:=by kernel_rfl
theorem vn (g:au) (n b:Int):∀ v∈[V.agg (ar g),.agg (dI n b)],Tree v:=by
  intro v hv; simp at hv
  rcases hv with rfl | rfl
  · exact bF _ (bB g)
  · exact bF _ (by intro v hv; simp[dI] at hv; rcases hv with rfl | rfl <;> exact .val _)
set_option maxHeartbeats 2000000 in
theorem Bb (g:au) (hg:g.Ok) (n b:Int):aC Tryz.prog 7 [.agg (ar g),.agg (dI n b)] (gb true):=by
  refine aC.val (vn g n b) fun H=>?_
  refine aB.of mixed mn ?_
  simp (disch:=omega) only [↓wr,↓reduceIte,wq,ai,ah,ak,ae,af,ag,aj,isNil,Nat.reduceEqDiff,Nat.reduceAdd,Nat.reduceLT,Nat.reduceLeDiff,Int.reduceNeg,Int.reduceToNat,reduceCtorEq,g8,ar,encS,dI]
  refine az.pure nh (by kernel_rfl) ?_
  simp (disch:=omega) only [↓wr,↓reduceIte,wq,ai,ah,ak,ae,af,ag,aj,isNil,Nat.reduceEqDiff,Nat.reduceAdd,Nat.reduceLT,Nat.reduceLeDiff,Int.reduceNeg,Int.reduceToNat,reduceCtorEq,ar,encS,dI]
  refine az.pure (ra g) (by kernel_rfl) ?_
  simp (disch:=omega) only [↓wr,↓reduceIte,wq,ai,ah,ak,ae,af,ag,aj,isNil,Nat.reduceEqDiff,Nat.reduceAdd,Nat.reduceLT,Nat.reduceLeDiff,Int.reduceNeg,Int.reduceToNat,reduceCtorEq]
  refine an.split (fun e=>?_) (fun e=>?_)
  · simp (disch:=omega) only [↓wr,↓reduceIte,wq,ai,ah,ak,ae,af,ag,aj,isNil,Nat.reduceEqDiff,Nat.reduceAdd,Nat.reduceLT,Nat.reduceLeDiff,Int.reduceNeg,Int.reduceToNat,reduceCtorEq]
  · have hs:g.Small:=lh e
    simp (disch:=omega) only [↓wr,↓reduceIte,wq,ai,ah,ak,ae,af,ag,aj,isNil,Nat.reduceEqDiff,Nat.reduceAdd,Nat.reduceLT,Nat.reduceLeDiff,Int.reduceNeg,Int.reduceToNat,reduceCtorEq,dI]
    refine az.pure (xc n b) (by kernel_rfl) ?_
    simp (disch:=omega) only [↓wr,↓reduceIte,wq,ai,ah,ak,ae,af,ag,aj,isNil,Nat.reduceEqDiff,Nat.reduceAdd,Nat.reduceLT,Nat.reduceLeDiff,Int.reduceNeg,Int.reduceToNat,reduceCtorEq]
    refine an.split (fun e=>?_) (fun e=>?_)
    · simp (disch:=omega) only [↓wr,↓reduceIte,wq,ai,ah,ak,ae,af,ag,aj,isNil,Nat.reduceEqDiff,Nat.reduceAdd,Nat.reduceLT,Nat.reduceLeDiff,Int.reduceNeg,Int.reduceToNat,reduceCtorEq]
    · have p1:=iM g hg hs n b
      have p2:=(F8 g hg n b).pure
      have p3:=q3 _ (b6 g n b).1 (oT g n b).1 (oT g n b).2
      rw[beq_self_eq_true] at p3
      generalize b6 g n b=x at p1 p2 p3
      simp only[ar,encS] at p1 p2
      simp (disch:=omega) only [↓wr,↓reduceIte,wq,ai,ah,ak,ae,af,ag,aj,isNil,Nat.reduceEqDiff,Nat.reduceAdd,Nat.reduceLT,Nat.reduceLeDiff,Int.reduceNeg,Int.reduceToNat,reduceCtorEq,dI,ar,encS]
      refine az.pure p1 (by kernel_rfl) ?_
      simp (disch:=omega) only [↓wr,↓reduceIte,wq,ai,ah,ak,ae,af,ag,aj,isNil,Nat.reduceEqDiff,Nat.reduceAdd,Nat.reduceLT,Nat.reduceLeDiff,Int.reduceNeg,Int.reduceToNat,reduceCtorEq,dD,dI,ar,encS]
      refine az.pure p2 (by kernel_rfl) ?_
      simp (disch:=omega) only [↓wr,↓reduceIte,wq,ai,ah,ak,ae,af,ag,aj,isNil,Nat.reduceEqDiff,Nat.reduceAdd,Nat.reduceLT,Nat.reduceLeDiff,Int.reduceNeg,Int.reduceToNat,reduceCtorEq,dD]
      refine az.pure p3 (by kernel_rfl) ?_
      simp (disch:=omega) only [↓wr,↓reduceIte,wq,ai,ah,ak,ae,af,ag,aj,isNil,Nat.reduceEqDiff,Nat.reduceAdd,Nat.reduceLT,Nat.reduceLeDiff,Int.reduceNeg,Int.reduceToNat,reduceCtorEq]
      simp
set_option maxHeartbeats 2000000 in
theorem Az (g:au) (hg:g.Ok) (n b:Int):aC Tryz.prog 8 [.agg (ar g),.agg (dI n b)] (gb true):=by
  refine aC.val (vn g n b) fun H=>?_
  refine aB.of mixed mD ?_
  simp (disch:=omega) only [↓wr,↓reduceIte,wq,ai,ah,ak,ae,af,ag,aj,isNil,Nat.reduceEqDiff,Nat.reduceAdd,Nat.reduceLT,Nat.reduceLeDiff,Int.reduceNeg,Int.reduceToNat,reduceCtorEq,g9,ar,encS,dI]
  refine az.pure nh (by kernel_rfl) ?_
  simp (disch:=omega) only [↓wr,↓reduceIte,wq,ai,ah,ak,ae,af,ag,aj,isNil,Nat.reduceEqDiff,Nat.reduceAdd,Nat.reduceLT,Nat.reduceLeDiff,Int.reduceNeg,Int.reduceToNat,reduceCtorEq,ar,encS,dI]
  refine az.pure (ra g) (by kernel_rfl) ?_
  simp (disch:=omega) only [↓wr,↓reduceIte,wq,ai,ah,ak,ae,af,ag,aj,isNil,Nat.reduceEqDiff,Nat.reduceAdd,Nat.reduceLT,Nat.reduceLeDiff,Int.reduceNeg,Int.reduceToNat,reduceCtorEq]
  refine an.split (fun e=>?_) (fun e=>?_)
  · simp (disch:=omega) only [↓wr,↓reduceIte,wq,ai,ah,ak,ae,af,ag,aj,isNil,Nat.reduceEqDiff,Nat.reduceAdd,Nat.reduceLT,Nat.reduceLeDiff,Int.reduceNeg,Int.reduceToNat,reduceCtorEq]
  · have hs:g.Small:=lh e
    simp (disch:=omega) only [↓wr,↓reduceIte,wq,ai,ah,ak,ae,af,ag,aj,isNil,Nat.reduceEqDiff,Nat.reduceAdd,Nat.reduceLT,Nat.reduceLeDiff,Int.reduceNeg,Int.reduceToNat,reduceCtorEq,dI]
    refine az.pure (xc n b) (by kernel_rfl) ?_
    have p0:=(F3 g (Dx e)).pure
    have p1:=AF g hg hs n b
    have p2:=(Eg g hg n b).pure
    have p3:=q3 _ (eT g n b).1 (uz g n b).1 (uz g n b).2
    have p4:=F2 g g hg
    rw[beq_self_eq_true] at p3
    rw[decide_eq_true rfl] at p4
    generalize eT g n b=x at p1 p2 p3
    simp only[ar,encS] at p0 p1 p2 p4
    repeat' (first | (refine an.dec (fun _=>?_) (fun _=>?_)) | (refine an.eq (fun _=>?_) (fun _=>?_)) | (refine an.ne (fun _=>?_) (fun _=>?_)) | (refine an.split (fun _=>?_) (fun _=>?_)) | refine az.pure p0 (by kernel_rfl) ?_ | (simp (disch:=omega) only [↓wr,↓reduceIte,wq,ai,ah,ak,ae,af,ag,aj,isNil,Nat.reduceEqDiff,Nat.reduceAdd,Nat.reduceLT,Nat.reduceLeDiff,Int.reduceNeg,Int.reduceToNat,reduceCtorEq,dI,ar,encS]))
    all_goals (
      intro m hm
      refine az.pure p1 (by kernel_rfl) ?_
      simp (disch:=omega) only [↓wr,↓reduceIte,wq,ai,ah,ak,ae,af,ag,aj,isNil,Nat.reduceEqDiff,Nat.reduceAdd,Nat.reduceLT,Nat.reduceLeDiff,Int.reduceNeg,Int.reduceToNat,reduceCtorEq,dD,dI,ar,encS]
      refine az.pure p2 (by kernel_rfl) ?_
      simp (disch:=omega) only [↓wr,↓reduceIte,wq,ai,ah,ak,ae,af,ag,aj,isNil,Nat.reduceEqDiff,Nat.reduceAdd,Nat.reduceLT,Nat.reduceLeDiff,Int.reduceNeg,Int.reduceToNat,reduceCtorEq,dD]
      refine az.pure p3 (by kernel_rfl) ?_
      simp (disch:=omega) only [↓wr,↓reduceIte,wq,ai,ah,ak,ae,af,ag,aj,isNil,Nat.reduceEqDiff,Nat.reduceAdd,Nat.reduceLT,Nat.reduceLeDiff,Int.reduceNeg,Int.reduceToNat,reduceCtorEq]
      refine an.eq (fun _=>?_) (fun hx=>absurd rfl hx)
      simp (disch:=omega) only [↓wr,↓reduceIte,wq,ai,ah,ak,ae,af,ag,aj,isNil,Nat.reduceEqDiff,Nat.reduceAdd,Nat.reduceLT,Nat.reduceLeDiff,Int.reduceNeg,Int.reduceToNat,reduceCtorEq,ar,encS]
      refine az.pure p4 (by kernel_rfl) ?_
      simp (disch:=omega) only [↓wr,↓reduceIte,wq,ai,ah,ak,ae,af,ag,aj,isNil,Nat.reduceEqDiff,Nat.reduceAdd,Nat.reduceLT,Nat.reduceLeDiff,Int.reduceNeg,Int.reduceToNat,reduceCtorEq])
set_option maxHeartbeats 4000000 in
theorem BE (g:au) (hg:g.Ok) (n b:Int):aC Tryz.prog 9 [.agg (ar g),.agg (dI n b)] (gb true):=by
  refine aC.val (vn g n b) fun H=>?_
  refine aB.of mixed nk ?_
  simp (disch:=omega) only [↓wr,↓reduceIte,wq,ai,ah,ak,ae,af,ag,aj,isNil,Nat.reduceEqDiff,Nat.reduceAdd,Nat.reduceLT,Nat.reduceLeDiff,Int.reduceNeg,Int.reduceToNat,reduceCtorEq,iz,ar,encS,dI]
  refine az.pure nh (by kernel_rfl) ?_
  simp (disch:=omega) only [↓wr,↓reduceIte,wq,ai,ah,ak,ae,af,ag,aj,isNil,Nat.reduceEqDiff,Nat.reduceAdd,Nat.reduceLT,Nat.reduceLeDiff,Int.reduceNeg,Int.reduceToNat,reduceCtorEq,ar,encS,dI]
  refine az.pure (ra g) (by kernel_rfl) ?_
  simp (disch:=omega) only [↓wr,↓reduceIte,wq,ai,ah,ak,ae,af,ag,aj,isNil,Nat.reduceEqDiff,Nat.reduceAdd,Nat.reduceLT,Nat.reduceLeDiff,Int.reduceNeg,Int.reduceToNat,reduceCtorEq]
  refine an.split (fun e=>?_) (fun e=>?_)
  · simp (disch:=omega) only [↓wr,↓reduceIte,wq,ai,ah,ak,ae,af,ag,aj,isNil,Nat.reduceEqDiff,Nat.reduceAdd,Nat.reduceLT,Nat.reduceLeDiff,Int.reduceNeg,Int.reduceToNat,reduceCtorEq]
  · have hs:g.Small:=lh e
    simp (disch:=omega) only [↓wr,↓reduceIte,wq,ai,ah,ak,ae,af,ag,aj,isNil,Nat.reduceEqDiff,Nat.reduceAdd,Nat.reduceLT,Nat.reduceLeDiff,Int.reduceNeg,Int.reduceToNat,reduceCtorEq,dI]
    refine az.pure (xc n b) (by kernel_rfl) ?_
    simp (disch:=omega) only [↓wr,↓reduceIte,wq,ai,ah,ak,ae,af,ag,aj,isNil,Nat.reduceEqDiff,Nat.reduceAdd,Nat.reduceLT,Nat.reduceLeDiff,Int.reduceNeg,Int.reduceToNat,reduceCtorEq]
    refine an.split (fun e=>?_) (fun e=>?_)
    · simp (disch:=omega) only [↓wr,↓reduceIte,wq,ai,ah,ak,ae,af,ag,aj,isNil,Nat.reduceEqDiff,Nat.reduceAdd,Nat.reduceLT,Nat.reduceLeDiff,Int.reduceNeg,Int.reduceToNat,reduceCtorEq]
    · have p1:=iM g hg hs n b
      have hok:=@vh g n b
      have hno:=@uT g n b
      generalize b6 g n b=x at p1 hok hno
      obtain ⟨l,e2⟩:=x
      simp only[ar,encS] at p1
      simp only at hok hno
      simp (disch:=omega) only [↓wr,↓reduceIte,wq,ai,ah,ak,ae,af,ag,aj,isNil,Nat.reduceEqDiff,Nat.reduceAdd,Nat.reduceLT,Nat.reduceLeDiff,Int.reduceNeg,Int.reduceToNat,reduceCtorEq,dI,ar,encS]
      refine az.pure p1 (by kernel_rfl) ?_
      simp (disch:=omega) only [↓wr,↓reduceIte,wq,ai,ah,ak,ae,af,ag,aj,isNil,Nat.reduceEqDiff,Nat.reduceAdd,Nat.reduceLT,Nat.reduceLeDiff,Int.reduceNeg,Int.reduceToNat,reduceCtorEq,dD,cW]
      refine an.ne (fun he=>?_) (fun he=>?_)
      · rw[hno he]
        simp (disch:=omega) only [↓wr,↓reduceIte,wq,ai,ah,ak,ae,af,ag,aj,isNil,Nat.reduceEqDiff,Nat.reduceAdd,Nat.reduceLT,Nat.reduceLeDiff,Int.reduceNeg,Int.reduceToNat,reduceCtorEq]
        simp
      · obtain ⟨hm,hl,hb⟩:=hok he
        simp only[ib,Bool.and_eq_true,decide_eq_true_eq] at hm
        have hri:zr l:=by rw[hl]; exact ui _ _
        have hin:∀ w∈l,pC g w=(true,0)∧(w.length:Int)=n∧aL w∧∀ x∈w,bJ x:=fun w hw=>by
          rw[hl] at hw
          obtain ⟨a1,a2,a3,a4⟩:=aU hg hm.1.1.1.1 (by omega) hw
          exact ⟨a1,by omega,a3,a4⟩
        clear hl hok hno p1
        simp (disch:=omega) only [↓wr,↓reduceIte,wq,ai,ah,ak,ae,af,ag,aj,isNil,Nat.reduceEqDiff,Nat.reduceAdd,Nat.reduceLT,Nat.reduceLeDiff,Int.reduceNeg,Int.reduceToNat,reduceCtorEq]
        refine bo.up l.length (fun i T H'=>T 2=.aJ (ar g) 0∧T 3=.aJ (dI n b) 0∧T 5=cW l∧T 7=gi i) ⟨rfl,rfl,rfl,rfl⟩ ?_
        rintro i k T H1 hk ⟨t2,t3,t5,t7⟩
        simp (disch:=omega) only [↓wr,↓reduceIte,wq,ai,ah,ak,ae,af,ag,aj,isNil,Nat.reduceEqDiff,Nat.reduceAdd,Nat.reduceLT,Nat.reduceLeDiff,Int.reduceNeg,Int.reduceToNat,reduceCtorEq,gx,t2,t3,t5,t7,cW]
        refine an.dec (fun hi=>?_) (fun hi=>?_)
        · have h2:l[i]?=some (l[i]'(by omega)):=List.getElem?_eq_getElem (by omega)
          obtain ⟨a1,a2,a3,a4⟩:=hin _ (List.mem_of_getElem? h2)
          have q1:=AD g hg _ a3 a4
          rw[a1] at q1
          simp only[ar,encS] at q1
          simp (disch:=omega) only [↓wr,↓reduceIte,wq,ai,ah,ak,ae,af,ag,aj,isNil,Nat.reduceEqDiff,Nat.reduceAdd,Nat.reduceLT,Nat.reduceLeDiff,Int.reduceNeg,Int.reduceToNat,reduceCtorEq,t2,t3,t5,t7,cW,ar,encS,List.getElem?_map,h2,Option.map_some]
          refine az.pure q1 (by kernel_rfl) ?_
          simp (disch:=omega) only [↓wr,↓reduceIte,wq,ai,ah,ak,ae,af,ag,aj,isNil,Nat.reduceEqDiff,Nat.reduceAdd,Nat.reduceLT,Nat.reduceLeDiff,Int.reduceNeg,Int.reduceToNat,reduceCtorEq,kQ]
          refine an.ne (fun hx=>absurd rfl hx) (fun _=>?_)
          simp (disch:=omega) only [↓wr,↓reduceIte,wq,ai,ah,ak,ae,af,ag,aj,isNil,Nat.reduceEqDiff,Nat.reduceAdd,Nat.reduceLT,Nat.reduceLeDiff,Int.reduceNeg,Int.reduceToNat,reduceCtorEq,t2,t3,t5,t7,cW,dI,encI,List.getElem?_map,h2,Option.map_some]
          refine an.ne (fun hx=>absurd a2 hx) (fun _=>?_)
          simp (disch:=omega) only [↓wr,↓reduceIte,wq,ai,ah,ak,ae,af,ag,aj,isNil,Nat.reduceEqDiff,Nat.reduceAdd,Nat.reduceLT,Nat.reduceLeDiff,Int.reduceNeg,Int.reduceToNat,reduceCtorEq,t2,t3,t5,t7,cW]
          refine an.dec (fun hi0=>?_) (fun hi0=>?_)
          · have h3:l[i - 1]?=some (l[i - 1]'(by omega)):=List.getElem?_eq_getElem (by omega)
            have hless:=List.pairwise_iff_getElem.1 hri (i - 1) i (by omega) (by omega) (by omega)
            have q2:=HQ (l[i - 1]'(by omega)) (l[i]'(by omega)) (hin _ (List.mem_of_getElem? h3)).2.2.1 a3
            rw[hless] at q2
            have hcast:((i:Int) - 1)=((i - 1:Nat):Int):=by omega
            simp (disch:=omega) only [↓wr,↓reduceIte,wq,ai,ah,ak,ae,af,ag,aj,isNil,Nat.reduceEqDiff,Nat.reduceAdd,Nat.reduceLT,Nat.reduceLeDiff,Int.reduceNeg,Int.reduceToNat,reduceCtorEq,t2,t3,t5,t7,cW,List.getElem?_map,h2,h3,hcast,Option.map_some]
            refine az.pure q2 (by kernel_rfl) ?_
            simp (disch:=omega) only [↓wr,↓reduceIte,wq,ai,ah,ak,ae,af,ag,aj,isNil,Nat.reduceEqDiff,Nat.reduceAdd,Nat.reduceLT,Nat.reduceLeDiff,Int.reduceNeg,Int.reduceToNat,reduceCtorEq,t2,t3,t5,t7]
            exact bb hk (by omega) ⟨t2,t3,t5,rfl⟩
          · simp (disch:=omega) only [↓wr,↓reduceIte,wq,ai,ah,ak,ae,af,ag,aj,isNil,Nat.reduceEqDiff,Nat.reduceAdd,Nat.reduceLT,Nat.reduceLeDiff,Int.reduceNeg,Int.reduceToNat,reduceCtorEq,t2,t3,t5,t7]
            exact bb hk (by omega) ⟨t2,t3,t5,rfl⟩
        · simp (disch:=omega) only [↓wr,↓reduceIte,wq,ai,ah,ak,ae,af,ag,aj,isNil,Nat.reduceEqDiff,Nat.reduceAdd,Nat.reduceLT,Nat.reduceLeDiff,Int.reduceNeg,Int.reduceToNat,reduceCtorEq,t2,t3,t5,t7,cW,dI]
          simp; omega
theorem E0 (g:au) (l:List Int) (n:Int):∀ v∈[V.agg (ar g),encI l,.val (.int .u8 n)],Tree v:=GP g l n
set_option maxHeartbeats 4000000 in
theorem AL (g:au) (hg:g.Ok) (w:List Int) (hw:aL w) (hn:∀ x∈w,bJ x) (y:Int) (hy0:0≤y) (hy1:y≤255):aC Tryz.prog 10 [.agg (ar g),encI w,.val (.int .u8 y)] (gb true):=by
  refine aC.val (E0 g w y) fun H=>?_
  refine aB.of mixed mz ?_
  have hw':=hw
  unfold aL at hw
  simp (disch:=omega) only [↓wr,↓reduceIte,wq,ai,ah,ak,ae,af,ag,aj,isNil,Nat.reduceEqDiff,Nat.reduceAdd,Nat.reduceLT,Nat.reduceLeDiff,Int.reduceNeg,Int.reduceToNat,reduceCtorEq,hU,ar,encS]
  refine az.pure nh (by kernel_rfl) ?_
  simp (disch:=omega) only [↓wr,↓reduceIte,wq,ai,ah,ak,ae,af,ag,aj,isNil,Nat.reduceEqDiff,Nat.reduceAdd,Nat.reduceLT,Nat.reduceLeDiff,Int.reduceNeg,Int.reduceToNat,reduceCtorEq,ar,encS]
  refine az.pure (ra g) (by kernel_rfl) ?_
  simp (disch:=omega) only [↓wr,↓reduceIte,wq,ai,ah,ak,ae,af,ag,aj,isNil,Nat.reduceEqDiff,Nat.reduceAdd,Nat.reduceLT,Nat.reduceLeDiff,Int.reduceNeg,Int.reduceToNat,reduceCtorEq]
  refine an.split (fun e=>?_) (fun e=>?_)
  · simp (disch:=omega) only [↓wr,↓reduceIte,wq,ai,ah,ak,ae,af,ag,aj,isNil,Nat.reduceEqDiff,Nat.reduceAdd,Nat.reduceLT,Nat.reduceLeDiff,Int.reduceNeg,Int.reduceToNat,reduceCtorEq]
  · have hs:g.Small:=lh e
    simp (disch:=omega) only [↓wr,↓reduceIte,wq,ai,ah,ak,ae,af,ag,aj,isNil,Nat.reduceEqDiff,Nat.reduceAdd,Nat.reduceLT,Nat.reduceLeDiff,Int.reduceNeg,Int.reduceToNat,reduceCtorEq,encI]
    refine an.dec (fun hc=>?_) (fun hc=>?_)
    · simp (disch:=omega) only [↓wr,↓reduceIte,wq,ai,ah,ak,ae,af,ag,aj,isNil,Nat.reduceEqDiff,Nat.reduceAdd,Nat.reduceLT,Nat.reduceLeDiff,Int.reduceNeg,Int.reduceToNat,reduceCtorEq]
    · have q1:=AD g hg w hw' hn
      obtain ⟨k,hk⟩:∃ k:Int,y.tmod 41=k:=⟨_,rfl⟩
      have p1:=iM g hg hs w.length k
      have hok:=@vh g w.length k
      have hno:=@uT g w.length k
      have hsh:=oT g w.length k
      generalize b6 g w.length k=x at p1 hok hno hsh
      obtain ⟨l,e2⟩:=x
      simp only[ar,encS,encI] at p1 q1
      simp only at hok hno hsh
      simp (disch:=omega) only [↓wr,↓reduceIte,wq,ai,ah,ak,ae,af,ag,aj,isNil,Nat.reduceEqDiff,Nat.reduceAdd,Nat.reduceLT,Nat.reduceLeDiff,Int.reduceNeg,Int.reduceToNat,reduceCtorEq,encI,ar,encS]
      refine az.pure q1 (by kernel_rfl) ?_
      by_cases hwb:gW g w=true
      · have h1:pC g w=(cF g w,0):=by rw[pC,if_pos hwb]
        have hmem:=C6 hwb
        rw[h1]
        simp (disch:=omega) only [↓wr,↓reduceIte,wq,ai,ah,ak,ae,af,ag,aj,isNil,Nat.reduceEqDiff,Nat.reduceAdd,Nat.reduceLT,Nat.reduceLeDiff,Int.reduceNeg,Int.reduceToNat,reduceCtorEq,kQ,encI,ar,encS]
        rw[if_neg (by omega),hk]
        simp (disch:=omega) only [↓wr,↓reduceIte,wq,ai,ah,ak,ae,af,ag,aj,isNil,Nat.reduceEqDiff,Nat.reduceAdd,Nat.reduceLT,Nat.reduceLeDiff,Int.reduceNeg,Int.reduceToNat,reduceCtorEq,encI,ar,encS]
        refine az.pure p1 (by kernel_rfl) ?_
        simp (disch:=omega) only [↓wr,↓reduceIte,wq,ai,ah,ak,ae,af,ag,aj,isNil,Nat.reduceEqDiff,Nat.reduceAdd,Nat.reduceLT,Nat.reduceLeDiff,Int.reduceNeg,Int.reduceToNat,reduceCtorEq,dD]
        refine an.ne (fun hx=>absurd rfl hx) (fun _=>?_)
        simp (disch:=omega) only [↓wr,↓reduceIte,wq,ai,ah,ak,ae,af,ag,aj,isNil,Nat.reduceEqDiff,Nat.reduceAdd,Nat.reduceLT,Nat.reduceLeDiff,Int.reduceNeg,Int.reduceToNat,reduceCtorEq]
        refine an.ne (fun he=>?_) (fun he=>?_)
        · rw[hno he]
          simp (disch:=omega) only [↓wr,↓reduceIte,wq,ai,ah,ak,ae,af,ag,aj,isNil,Nat.reduceEqDiff,Nat.reduceAdd,Nat.reduceLT,Nat.reduceLeDiff,Int.reduceNeg,Int.reduceToNat,reduceCtorEq,cW]
          refine an.eq (fun _=>?_) (fun h=>absurd rfl h)
          simp (disch:=omega) only [↓wr,↓reduceIte,wq,ai,ah,ak,ae,af,ag,aj,isNil,Nat.reduceEqDiff,Nat.reduceAdd,Nat.reduceLT,Nat.reduceLeDiff,Int.reduceNeg,Int.reduceToNat,reduceCtorEq]
        · obtain ⟨hm,hl,hb⟩:=hok he
          rw[Int.toNat_natCast] at hl
          rw[← hl] at hmem
          clear hl hno hok p1
          obtain ⟨hsl,hsw⟩:=hsh
          unfold aL at hsl
          simp (disch:=omega) only [↓wr,↓reduceIte,wq,ai,ah,ak,ae,af,ag,aj,isNil,Nat.reduceEqDiff,Nat.reduceAdd,Nat.reduceLT,Nat.reduceLeDiff,Int.reduceNeg,Int.reduceToNat,reduceCtorEq]
          refine bo.up l.length (fun i T H'=>T 1=encI w∧T 9=cW l∧T 11=gb (decide (w∈l.take i))∧T 12=gi i∧T 7=gb (cF g w)) ⟨rfl,rfl,by show gb false=_; simp,rfl,rfl⟩ ?_
          rintro i j T H1 hk2 ⟨t1,t9,t11,t12,t7⟩
          simp (disch:=omega) only [↓wr,↓reduceIte,wq,ai,ah,ak,ae,af,ag,aj,isNil,Nat.reduceEqDiff,Nat.reduceAdd,Nat.reduceLT,Nat.reduceLeDiff,Int.reduceNeg,Int.reduceToNat,reduceCtorEq,fL,t1,t9,t11,t12,t7,cW]
          refine an.dec (fun hi=>?_) (fun hi=>?_)
          · have h2:l[i]?=some (l[i]'(by omega)):=List.getElem?_eq_getElem (by omega)
            have hxm:=List.mem_of_getElem? h2
            have htk:l.take (i+1)=l.take i ++ [l[i]'(by omega)]:=by rw[List.take_add_one,h2]; rfl
            generalize l[i]'(by omega)=x at h2 hxm htk
            have q2:=xx x w (hsw x hxm)
            simp (disch:=omega) only [↓wr,↓reduceIte,wq,ai,ah,ak,ae,af,ag,aj,isNil,Nat.reduceEqDiff,Nat.reduceAdd,Nat.reduceLT,Nat.reduceLeDiff,Int.reduceNeg,Int.reduceToNat,reduceCtorEq,t1,t9,t11,t12,t7,cW,List.getElem?_map,h2,Option.map_some]
            refine an.dec (fun hd=>?_) (fun hd=>?_)
            · simp (disch:=omega) only [↓wr,↓reduceIte,wq,ai,ah,ak,ae,af,ag,aj,isNil,Nat.reduceEqDiff,Nat.reduceAdd,Nat.reduceLT,Nat.reduceLeDiff,Int.reduceNeg,Int.reduceToNat,reduceCtorEq,t1,t9,t11,t12,t7]
              exact bb hk2 (by omega) ⟨t1,t9,by show gb true=_; rw[htk]; simp[hd],rfl,t7⟩
            · simp (disch:=omega) only [↓wr,↓reduceIte,wq,ai,ah,ak,ae,af,ag,aj,isNil,Nat.reduceEqDiff,Nat.reduceAdd,Nat.reduceLT,Nat.reduceLeDiff,Int.reduceNeg,Int.reduceToNat,reduceCtorEq,t1,t9,t11,t12,t7,cW,List.getElem?_map,h2,Option.map_some]
              refine az.pure q2 (by kernel_rfl) ?_
              simp (disch:=omega) only [↓wr,↓reduceIte,wq,ai,ah,ak,ae,af,ag,aj,isNil,Nat.reduceEqDiff,Nat.reduceAdd,Nat.reduceLT,Nat.reduceLeDiff,Int.reduceNeg,Int.reduceToNat,reduceCtorEq,t1,t9,t11,t12,t7]
              refine bb hk2 (by omega) ⟨t1,t9,?_,rfl,t7⟩
              show gb (x == w)=_
              rw[htk]
              refine congrArg (fun b=>V.val (.bool b)) ?_
              rw[Bool.eq_iff_iff,beq_iff_eq,decide_eq_true_eq,List.mem_append,List.mem_singleton]
              exact ⟨fun h=>.inr h.symm,fun h=>h.elim (fun h=>absurd h hd) Eq.symm⟩
          · rw[List.take_of_length_le (by omega)] at t11
            simp (disch:=omega) only [↓wr,↓reduceIte,wq,ai,ah,ak,ae,af,ag,aj,isNil,Nat.reduceEqDiff,Nat.reduceAdd,Nat.reduceLT,Nat.reduceLeDiff,Int.reduceNeg,Int.reduceToNat,reduceCtorEq,t1,t9,t11,t12,t7]
            refine congrArg (fun b=>V.val (.bool b)) ?_
            rw[beq_iff_eq,Bool.eq_iff_iff,decide_eq_true_eq]
            exact hmem.symm
      · have h1:pC g w=(false,1):=by rw[pC,if_neg hwb]
        rw[h1]
        simp (disch:=omega) only [↓wr,↓reduceIte,wq,ai,ah,ak,ae,af,ag,aj,isNil,Nat.reduceEqDiff,Nat.reduceAdd,Nat.reduceLT,Nat.reduceLeDiff,Int.reduceNeg,Int.reduceToNat,reduceCtorEq,kQ,encI,ar,encS]
        rw[if_neg (by omega),hk]
        simp (disch:=omega) only [↓wr,↓reduceIte,wq,ai,ah,ak,ae,af,ag,aj,isNil,Nat.reduceEqDiff,Nat.reduceAdd,Nat.reduceLT,Nat.reduceLeDiff,Int.reduceNeg,Int.reduceToNat,reduceCtorEq,encI,ar,encS]
        refine az.pure p1 (by kernel_rfl) ?_
        simp (disch:=omega) only [↓wr,↓reduceIte,wq,ai,ah,ak,ae,af,ag,aj,isNil,Nat.reduceEqDiff,Nat.reduceAdd,Nat.reduceLT,Nat.reduceLeDiff,Int.reduceNeg,Int.reduceToNat,reduceCtorEq,dD]
        refine an.ne (fun _=>?_) (fun hx=>absurd hx (by decide))
        simp (disch:=omega) only [↓wr,↓reduceIte,wq,ai,ah,ak,ae,af,ag,aj,isNil,Nat.reduceEqDiff,Nat.reduceAdd,Nat.reduceLT,Nat.reduceLeDiff,Int.reduceNeg,Int.reduceToNat,reduceCtorEq,cW]
        refine an.eq (fun _=>?_) (fun _=>?_)
        · simp (disch:=omega) only [↓wr,↓reduceIte,wq,ai,ah,ak,ae,af,ag,aj,isNil,Nat.reduceEqDiff,Nat.reduceAdd,Nat.reduceLT,Nat.reduceLeDiff,Int.reduceNeg,Int.reduceToNat,reduceCtorEq]
        · simp (disch:=omega) only [↓wr,↓reduceIte,wq,ai,ah,ak,ae,af,ag,aj,isNil,Nat.reduceEqDiff,Nat.reduceAdd,Nat.reduceLT,Nat.reduceLeDiff,Int.reduceNeg,Int.reduceToNat,reduceCtorEq]
          rfl
end Gv
set_option linter.unusedSimpArgs false
set_option maxRecDepth 100000
namespace Gv
open Go Go.Proofs
theorem J6 {cs:List Value} (h:cs.length=2):cs=[cs.getD 0 undef,cs.getD 1 undef]:=by
  match cs,h with
  | [a,b],_=>rfl
theorem Am:rZ Tryz.prog 38 (fun x:Int × Int=>dI x.1 x.2) (fun x=>bJ x.1∧bJ x.2):=fun enc w base sp held fuel cs x h hw=>by
  obtain ⟨hl,hf⟩:=oM Tryz.underlying38 (by
    intro i f hi
    match i,hi with
    | 0,hi=>simp at hi; subst hi; exact ⟨rfl,by kernel_rfl⟩
    | 1,hi=>simp at hi; subst hi; exact ⟨rfl,by kernel_rfl⟩
    | n+2,hi=>simp at hi) (by kernel_rfl) h hw
  obtain ⟨a,h0,h1⟩:=hf 0 _ rfl gu
  obtain ⟨b,h2,h3⟩:=hf 1 _ rfl gu
  refine ⟨⟨a,b⟩,⟨h0,h2⟩,?_⟩
  rw[J6 hl]
  exact dt h1 (dt h3 qH)
end Gv
