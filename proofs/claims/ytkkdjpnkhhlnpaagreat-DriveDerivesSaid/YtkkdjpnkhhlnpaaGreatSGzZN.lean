/-
  Part 14 of the proof: what the machine does and what the functions answer.
  Conditions: those that each lemma names.
-/
import Derived.Test.YtkkdjpnkhhlnpaaGreatSGzZM
set_option linter.unusedSimpArgs false
set_option linter.unusedVariables false
set_option maxRecDepth 100000
namespace Gv
open Go Go.Proofs
def B_gerundref12_Of_0:SC :=
  .seq (.seq (ab [aa 11 7,aa 12 1,aj 13 12,ak 14 .lss 11 13]) <|
  .cond (.tmp 14) (.skip) (.exit 0)) <|
  .seq (.block 1 (.seq (ab [au 17 4 3,aa 18 1,aa 19 7,av 20 1 18 19,ae 21 20,ao 22 172 [17,21],aB 23 22]) <|
  .cond (.tmp 23) (.seq (ab [((some 6),.op (.mov (.val (.val (.int .u32 0)))))]) <|
  .ret) (.skip))) <|
  ab [aa 15 7,ah 16 .add 15 1,aa 7 16]
def S_gerundref12_Of:SF:=⟨.seq (ab [aC 3 0,((some 6),.op (.mov (.val (.val (.int .u32 0)))))]) <|
  .seq (.seq (ab [au 8 4 3,ao 9 66 [8],aB 10 9]) <|
  .cond (.tmp 10) (.seq (ab [((some 6),.op (.mov (.val (.val (.int .u32 0)))))]) <|
  .ret) (.skip)) <|
  .seq (.seq (ab [ai 7 0]) <|
  .block 0 (.loop B_gerundref12_Of_0)) <|
  .seq (.region true [⟨none,[aa 24 1,au 25 4 3,ao 26 196 [25],au 27 4 3,ao 28 197 [27],aa 29 2,ao 30 195 [24,26,28,29],aa 6 30]⟩]) <|
  .ret,
  [.tmp 6],31⟩
theorem S_gerundref12_Of_ok:compF Tryz.prog 139 [3]=some S_gerundref12_Of:=by kernel_rfl
def S_gerundref15_Has:SF:=⟨.seq (ab [aC 2 0,aC 3 1,aw 4 false]) <|
  .seq (.region true [⟨none,[au 5 4 2,ao 6 66 [5],aa 7 6]⟩,⟨(some (7,true)),[af 8 0 3,ae 9 8,ah 10 .geq 9 (-1)]⟩,⟨none,[az 11 7 10,aa 12 11]⟩,⟨(some (12,true)),[af 13 0 3,ae 14 13,af 15 2 2,ae 16 15,aj 17 16,ak 18 .lss 14 17]⟩,⟨none,[az 19 12 18,aa 20 19]⟩,⟨(some (20,true)),[af 21 1 3,ae 22 21,ah 23 .geq 22 0]⟩,⟨none,[az 24 20 23,aa 25 24]⟩,⟨(some (25,true)),[af 26 1 3,ae 27 26,au 28 4 2,af 29 0 3,ae 30 29,ao 31 67 [28,30],aj 32 31,ak 33 .leq 27 32]⟩,⟨none,[az 34 25 33,aa 4 34]⟩]) <|
  .ret,
  [.tmp 4],35⟩
theorem S_gerundref15_Has_ok:compF Tryz.prog 28 [2,3]=some S_gerundref15_Has:=by kernel_rfl
def S_gerundref15_Next:SF:=⟨.seq (ab [aC 2 0,aC 3 1,ai 4 0,aw 5 false]) <|
  .seq (.seq (ab [au 6 4 2,au 7 2 3,ao 8 28 [6,7],aB 9 8]) <|
  .cond (.tmp 9) (.seq (ab [ai 4 0,aw 5 false]) <|
  .ret) (.skip)) <|
  .seq (ab [au 10 4 2,au 11 2 3,ao 12 63 [10,11],aA 13 0 12,aA 14 1 12,aa 4 13,aa 5 14]) <|
  .ret,
  [.tmp 4,.tmp 5],15⟩
theorem S_gerundref15_Next_ok:compF Tryz.prog 26 [2,3]=some S_gerundref15_Next:=by kernel_rfl
def B_gerundref15_Closure_0:SC :=
  .seq (.seq (ab [aa 7 6,aa 8 1,aj 9 8,ak 10 .lss 7 9]) <|
  .cond (.tmp 10) (.skip) (.exit 0)) <|
  .seq (.block 1 (.seq (ab [au 13 4 2,aa 14 1,aa 15 6,av 16 2 14 15,au 17 2 16,ao 18 28 [13,17]]) <|
  .cond (.tmp 18) (ab [aa 19 5,aa 20 1,aa 21 6,av 22 2 20 21,au 23 2 22,((some 24),.op (.bslice 1 2 [(.val (.int .i64 0)),(.val (.int .i64 0))] [(0,(.tmp 23))])),((some 25),.op (.app 2 16 (.tmp 19) (.tmp 24))),aa 5 25]) (.skip))) <|
  ab [aa 11 6,ah 12 .add 11 1,aa 6 12]
def S_gerundref15_Closure:SF:=⟨.seq (ab [aC 2 0,((some 4),.op (.mov (.val (.emp 1))))]) <|
  .seq (ab [((some 5),.op (.mov (.val (.emp 1))))]) <|
  .seq (.seq (ab [ai 6 0]) <|
  .block 0 (.loop B_gerundref15_Closure_0)) <|
  .seq (.seq (ab [aa 26 5,aj 27 26,ah 28 .eql 27 0]) <|
  .cond (.tmp 28) (.seq (ab [((some 4),.op (.mov (.val (.emp 1))))]) <|
  .ret) (.skip)) <|
  .seq (ab [au 29 4 2,aa 30 5,ao 31 72 [29,30],aa 4 31]) <|
  .ret,
  [.tmp 4],32⟩
theorem S_gerundref15_Closure_ok:compF Tryz.prog 31 [2]=some S_gerundref15_Closure:=by kernel_rfl
def B_gerundref15_Walk_0:SC :=
  .seq (.seq (.region false [⟨none,[aa 26 11,aa 27 0,aa 28 1,av 29 2 27 28,af 30 1 29,ae 31 30,aj 32 31,ak 33 .lss 26 32,aa 34 33]⟩,⟨(some (34,true)),[aa 35 10,aB 36 35]⟩,⟨none,[az 37 34 36]⟩]) <|
  .cond (.tmp 37) (.skip) (.exit 2)) <|
  .seq (.block 3 (.seq (ab [aa 40 0,aa 41 1,av 42 2 40 41,af 43 1 42,ae 44 43,aa 45 11,av 46 2 44 45,af 47 0 46,ae 48 47,aa 49 2,aa 50 8,av 51 1 49 50,ae 52 51,ak 53 .eql 48 52]) <|
  .cond (.tmp 53) (ab [aa 54 0,aa 55 1,av 56 2 54 55,af 57 1 56,ae 58 57,aa 59 11,av 60 2 58 59,af 61 1 60,ae 62 61,aa 9 62,aw 10 true]) (.skip))) <|
  ab [aa 38 11,ah 39 .add 38 1,aa 11 39]
def B_gerundref15_Walk_1:SC :=
  .seq (.seq (ab [aa 20 8,aa 21 2,aj 22 21,ak 23 .lss 20 22]) <|
  .cond (.tmp 23) (.skip) (.exit 0)) <|
  .seq (.block 1 (.seq (ab [ai 9 (-1),aw 10 false]) <|
  .seq (.seq (ab [ai 11 0]) <|
  .block 2 (.loop B_gerundref15_Walk_0)) <|
  .seq (.seq (.region false [⟨none,[aa 63 9,ah 64 .lss 63 0,aa 65 64]⟩,⟨(some (65,false)),[aa 66 9,aa 67 0,aj 68 67,ak 69 .geq 66 68]⟩,⟨none,[ay 70 65 69]⟩]) <|
  .cond (.tmp 70) (.seq (ab [ai 6 0,aw 7 false]) <|
  .ret) (.skip)) <|
  ab [aa 71 9,aa 1 71])) <|
  ab [aa 24 8,ah 25 .add 24 1,aa 8 25]
def S_gerundref15_Walk:SF:=⟨.seq (ab [ai 6 0,aw 7 false]) <|
  .seq (.seq (.region false [⟨none,[aa 12 1,ah 13 .lss 12 0,aa 14 13]⟩,⟨(some (14,false)),[aa 15 1,aa 16 0,aj 17 16,ak 18 .geq 15 17]⟩,⟨none,[ay 19 14 18]⟩]) <|
  .cond (.tmp 19) (.seq (ab [ai 6 0,aw 7 false]) <|
  .ret) (.skip)) <|
  .seq (.seq (ab [ai 8 0]) <|
  .block 0 (.loop B_gerundref15_Walk_1)) <|
  .seq (ab [aa 72 1,aa 6 72,aw 7 true]) <|
  .ret,
  [.tmp 6,.tmp 7],73⟩
theorem S_gerundref15_Walk_ok:compF Tryz.prog 37 []=some S_gerundref15_Walk:=by kernel_rfl
def ofG (g:Gram) (syms:List Int) (rest:BV):BV:=if right09 g=true∧∀ s∈syms,hasG g s=true then ofD (grown09 g false) (firstD g (grown09 g false)) rest syms else 0
set_option maxHeartbeats 4000000 in
theorem pc_Of12 (g:Gram) (hg:g.Ok) (syms:List Int) (rest:BV) (hs:Short syms) (hn:∀ s∈syms,In64 s):PCall Tryz.prog 139 [.agg (encG g),encI syms,gw rest] (gw (ofG g syms rest)):=by
  have hs':=hs
  unfold Short at hs'
  refine PCall.val (by
    intro v hv; simp at hv
    rcases hv with rfl | rfl | rfl
    · exact tree_agg _ (encG_tree g)
    · exact encI_tree _
    · exact .val _) fun H=>?_
  have hr9:=pc_Right09 g hg
  have hnl:=pc_Nullable11 g hg
  have hfi:=(pn_First12 g hg).pure
  have hH:=fun s h=>pc_Has g s (hn s h)
  refine MCall.of mixed S_gerundref12_Of_ok ?_
  simp only[encG,encS] at hr9 hnl hfi hH
  simp (disch:=omega) only [↓wr,↓reduceIte,wq,oneV,Nat.reduceEqDiff,Nat.reduceAdd,Nat.reduceLeDiff,S_gerundref12_Of,encG,encS,encI]
  refine CallG.pure hr9 (by kernel_rfl) ?_
  simp (disch:=omega) only [↓wr,↓reduceIte,wq]
  refine GoB.split (fun hr=>?_) (fun hr=>?_)
  rotate_left
  · simp (disch:=omega) only [↓wr,↓reduceIte,wq,reduceCtorEq]
    rw[ofG,if_neg (by rw[hr]; simp)]; rfl
  have hf:=right09_fine hr
  have hnlen:=grown09_len hr false
  have hflen:=firstD_len g (grown09 g false)
  rw[firstG,if_pos hr] at hfi
  simp (disch:=omega) only [↓wr,wq]
  refine LoopG.up syms.length (fun i T H'=>(∀ s∈syms.take i,hasG g s=true)∧T 1=encI syms∧T 2=gw rest∧T 3=.fptr (encG g) 0∧T 7=gi i) ⟨by simp,rfl,rfl,rfl,rfl⟩ ?_
  rintro i k T H' hk ⟨hall,t1,t2,t3,t7⟩
  simp (disch:=omega) only [↓wr,↓reduceIte,wq,intOp,goI,Nat.reduceEqDiff,B_gerundref12_Of_0,t1,t7,encI]
  refine GoB.dec (fun hc=>?_) (fun hc=>?_)
  · have hx:syms[i]?=some (syms[i]'(by omega)):=List.getElem?_eq_getElem (by omega)
    have hm:=List.getElem_mem (show i < syms.length by omega)
    have htk:syms.take (i+1)=syms.take i ++ [syms[i]'(by omega)]:=by rw[List.take_add_one,hx]; rfl
    generalize syms[i]'(by omega)=x at hx hm htk
    simp (disch:=omega) only [↓wr,↓reduceIte,wq,Nat.reduceEqDiff,Nat.reduceAdd,Nat.reduceLT,Nat.reduceLeDiff,t1,t3,t7,encG,encS,encI,List.getElem?_map,hx]
    refine CallG.pure (hH x hm) (by kernel_rfl) ?_
    simp (disch:=omega) only [↓wr,↓reduceIte,wq]
    refine GoB.split (fun he=>?_) (fun he=>?_)
    · simp (disch:=omega) only [↓wr,↓reduceIte,wq,intOp,Nat.reduceEqDiff,reduceCtorEq,t1,t3,t7]
      refine up_next hk (by omega) ⟨fun s hs=>?_,t1,t2,t3,rfl⟩
      rw[htk] at hs
      rcases List.mem_append.1 hs with hs | hs
      · exact hall s hs
      · simp at hs; subst hs; exact he
    · simp (disch:=omega) only [↓wr,↓reduceIte,wq,intOp,Nat.reduceEqDiff,reduceCtorEq]
      rw[ofG,if_neg (fun h=>by have:=h.2 x hm; rw[he] at this; simp at this)]; rfl
  · rw[List.take_of_length_le (by omega)] at hall
    have hof:=pc_of12 syms (grown09 g false) (firstD g (grown09 g false)) rest hs fun s h=>⟨hn s h,fun hneg=>by
      have:=hall s h
      unfold hasG at this
      rw[if_neg (by omega)] at this
      simp at this
      omega⟩
    simp (disch:=omega) only [↓wr,↓reduceIte,wq,Nat.reduceEqDiff,Nat.reduceAdd,Nat.reduceLeDiff,reduceCtorEq,t1,t3,encG,encS]
    refine CallG.pure hnl (by kernel_rfl) ?_
    simp (disch:=omega) only [↓wr,↓reduceIte,wq,Nat.reduceEqDiff,Nat.reduceAdd,Nat.reduceLeDiff,t1,t3,encG,encS]
    refine CallG.pure hfi (by kernel_rfl) ?_
    simp (disch:=omega) only [↓wr,↓reduceIte,wq,Nat.reduceEqDiff,t1,t2]
    refine CallG.pure hof (by kernel_rfl) ?_
    simp (disch:=omega) only [↓wr,↓reduceIte,wq,reduceCtorEq]
    rw[ofG,if_pos ⟨hr,hall⟩]
instance (g:Gram) (x:LrI):Decidable (HasLr g x):=by unfold HasLr; infer_instance
def hasLrB (g:Gram) (x:LrI):Bool:=right09 g && decide (HasLr g x)
theorem gx_args (g:Gram) (x:LrI):∀ v∈[V.agg (encG g),.agg (encLr x)],Tree v:=by
  intro v hv; simp at hv
  rcases hv with rfl | rfl
  · exact tree_agg _ (encG_tree g)
  · exact tree_agg _ fun v hv=>by simp[encLr] at hv; rcases hv with rfl | rfl <;> exact .val _
set_option maxHeartbeats 4000000 in
theorem pc_Has15 (g:Gram) (hg:g.Ok) (x:LrI) (hx:In64 x.rule∧In64 x.dot):PCall Tryz.prog 28 [.agg (encG g),.agg (encLr x)] (gb (hasLrB g x)):=by
  refine PCall.val (gx_args g x) fun H=>?_
  have hr9:=pc_Right09 g hg
  obtain ⟨hx1,hx2⟩:=hx
  unfold In64 at hx1 hx2
  refine MCall.of mixed S_gerundref15_Has_ok ?_
  simp only[encG,encS] at hr9
  simp (disch:=omega) only [↓wr,↓reduceIte,wq,oneV,Nat.reduceEqDiff,Nat.reduceAdd,Nat.reduceLeDiff,Int.reduceNeg,S_gerundref15_Has,encG,encS,encLr]
  refine CallG.pure hr9 (by kernel_rfl) ?_
  have bad:¬ HasLr g x→gb false=gb (hasLrB g x):=fun h=>by unfold hasLrB; rw[decide_eq_false h,Bool.and_false]
  simp (disch:=omega) only [↓wr,↓reduceIte,wq,Int.reduceNeg]
  refine GoB.split (fun hr=>?_) (fun hr=>?_)
  rotate_left
  · simp (disch:=omega) only [↓wr,↓reduceIte,wq,Nat.reduceEqDiff,Int.reduceNeg,reduceCtorEq]
    unfold hasLrB; rw[hr]; rfl
  have hf:=right09_fine hr
  simp (disch:=omega) only [↓wr,↓reduceIte,wq,intOp,Nat.reduceEqDiff,Nat.reduceAdd,Nat.reduceLT,Int.reduceNeg]
  refine GoB.dec (fun h1=>?_) (fun h1=>?_)
  rotate_left
  · simp (disch:=omega) only [↓wr,↓reduceIte,wq,Nat.reduceEqDiff,Int.reduceNeg,reduceCtorEq]
    exact bad fun h=>by have:=h.1; omega
  simp (disch:=omega) only [↓wr,↓reduceIte,wq,intOp,goI,Nat.reduceEqDiff,Nat.reduceAdd,Nat.reduceLT,Int.reduceNeg]
  refine GoB.dec (fun h2=>?_) (fun h2=>?_)
  rotate_left
  · simp (disch:=omega) only [↓wr,↓reduceIte,wq,Nat.reduceEqDiff,Int.reduceNeg,reduceCtorEq]
    exact bad fun h=>by have:=h.1; omega
  simp (disch:=omega) only [↓wr,↓reduceIte,wq,intOp,Nat.reduceEqDiff,Nat.reduceAdd,Nat.reduceLT,Int.reduceNeg]
  refine GoB.dec (fun h3=>?_) (fun h3=>?_)
  rotate_left
  · simp (disch:=omega) only [↓wr,↓reduceIte,wq,Nat.reduceEqDiff,Int.reduceNeg,reduceCtorEq]
    exact bad fun h=>by have:=h.2; omega
  have hrt:=pc_right15 g (fine_start hf) x.rule ⟨by omega,by omega⟩
  have hl6:=rightLr_len hf (r:=x.rule) ⟨by omega,by omega⟩
  simp only[encG,encS,encI] at hrt
  simp (disch:=omega) only [↓wr,↓reduceIte,wq,Nat.reduceEqDiff,Nat.reduceAdd,Nat.reduceLT,Nat.reduceLeDiff,Int.reduceNeg]
  refine CallG.pure hrt (by kernel_rfl) ?_
  simp (disch:=omega) only [↓wr,↓reduceIte,wq,intOp,goI,Nat.reduceEqDiff,Int.reduceNeg,reduceCtorEq]
  congr 2
  unfold hasLrB
  rw[hr,Bool.true_and]
  congr 1
  unfold HasLr
  simp only[eq_iff_iff]
  omega
def nextB (g:Gram) (x:LrI):Int × Bool:=if hasLrB g x=true then nextLr g x else (0,false)
theorem hasLrB_iff {g:Gram} {x:LrI} : hasLrB g x=true↔right09 g=true∧HasLr g x:=by simp[hasLrB]
set_option maxHeartbeats 4000000 in
theorem pc_Next15 (g:Gram) (hg:g.Ok) (x:LrI) (hx:In64 x.rule∧In64 x.dot):PCall Tryz.prog 26 [.agg (encG g),.agg (encLr x)] (.tup [gi (nextB g x).1,gb (nextB g x).2]):=by
  have hh:=pc_Has15 g hg x hx
  refine PCall.tree (gx_args g x) (tree_tup2 (.val _) (.val _)) fun H=>?_
  refine MCall.of mixed S_gerundref15_Next_ok ?_
  simp only[encG,encS,encLr] at hh
  simp (disch:=omega) only [↓wr,↓reduceIte,wq,oneV,Nat.reduceEqDiff,Nat.reduceAdd,Nat.reduceLeDiff,S_gerundref15_Next,encG,encS,encLr]
  refine CallG.pure hh (by kernel_rfl) ?_
  unfold nextB
  simp (disch:=omega) only [↓wr,↓reduceIte,wq]
  refine GoB.split (fun h=>?_) (fun h=>?_)
  · obtain ⟨h1,h2⟩:=hasLrB_iff.1 h
    have hn:=pc_nextF g (right09_fine h1) x h2
    simp only[encG,encS,encLr] at hn
    simp (disch:=omega) only [↓wr,↓reduceIte,wq,Nat.reduceEqDiff,Nat.reduceAdd,Nat.reduceLeDiff]
    refine CallG.pure hn (by kernel_rfl) ?_
    simp (disch:=omega) only [↓wr,↓reduceIte,wq,Nat.reduceEqDiff,Nat.reduceAdd,Nat.reduceLT,reduceCtorEq]
    rw[if_pos h]
  · simp (disch:=omega) only [↓wr,↓reduceIte,wq,Nat.reduceEqDiff,reduceCtorEq]
    rw[h]; simp
theorem closD_nil (g:Gram):closD g []=[]:=by
  have:∀ x,¬ CloM g [] x:=fun x h=>by
    induction h with
    | base h=>simp at h
    | step _ _ _ _ _ ih=>exact ih
  unfold closD
  rw[List.filter_eq_nil_iff.2 fun x _=>by simp[this x]]
  rfl
theorem frn_lr {h:Heap} {u:V} {l:List LrI} (ho:OwnA h.view u 2 (lrE l)):FrN h u (.fro (lrE l)):=by
  refine FrN.own ho rfl (fun i _=>rfl) (fun i j hi hj=>?_)
  rw[lrE_len] at hi
  have e:(lrE l).getD i []=encLr l[i]:=by simp[lrE,List.getD_eq_getElem?_getD,hi]
  rw[e] at hj ⊢
  match j,hj with
  | 0,_=>exact .val _
  | 1,_=>exact .val _
theorem filt_take {α:Type} {l:List α} {p:α→Bool} {i:Nat} {x:α} (h:l[i]?=some x):(l.take (i+1)).filter p=if p x=true then (l.take i).filter p ++ [x] else (l.take i).filter p:=by
  rw[List.take_add_one,h,List.filter_append]
  split
  · rename_i hp; simp[hp]
  · rename_i hp; simp[hp]
set_option maxHeartbeats 4000000 in
theorem pn_Closure15 (g:Gram) (hg:g.Ok) (l:List LrI) (hl:l.length≤10000) (hn:∀ x∈l,In64 x.rule∧In64 x.dot):PNew Tryz.prog 31 [.agg (encG g),.fro (lrE l)] (.fro (lrE (closD g (l.filter (hasLrB g))))):=by
  refine PNew.of (by
    intro v hv; simp at hv
    rcases hv with rfl | rfl
    · exact tree_agg _ (encG_tree g)
    · exact lr_tree _) ?_
  refine MCall.of mixed S_gerundref15_Closure_ok ?_
  simp (disch:=omega) only [↓wr,wq,oneV,Nat.reduceAdd,Nat.reduceLeDiff,S_gerundref15_Closure,encG,encS,lrE]
  refine LoopG.up l.length (fun i T H'=>∃ r:V,OwnA H' r 2 (lrE ((l.take i).filter (hasLrB g)))∧T 1=.fro (lrE l)∧T 2=.fptr (encG g) 0∧T 5=r∧T 6=gi i) ⟨.emp 1,.nil,rfl,rfl,rfl,rfl⟩ ?_
  rintro i k T H' hk ⟨r,ho,t1,t2,t5,t6⟩
  simp (disch:=omega) only [↓wr,↓reduceIte,wq,intOp,goI,Nat.reduceEqDiff,B_gerundref15_Closure_0,t1,t6,lrE]
  refine GoB.dec (fun hc=>?_) (fun hc=>?_)
  · have hx:l[i]?=some (l[i]'(by omega)):=List.getElem?_eq_getElem (by omega)
    have hm:=hn _ (List.getElem_mem (show i < l.length by omega))
    generalize l[i]'(by omega)=x at hx hm
    have hh:=pc_Has15 g hg x hm
    have hft:=filt_take (p:=hasLrB g) hx
    have hfl:=List.length_filter_le (hasLrB g) (l.take i)
    rw[List.length_take] at hfl
    simp only[encG,encS,encLr] at hh
    simp (disch:=omega) only [↓wr,↓reduceIte,wq,Nat.reduceEqDiff,Nat.reduceAdd,Nat.reduceLeDiff,t1,t2,t6,encG,encS,lrE,List.getElem?_map,hx,encLr]
    refine CallG.pure hh (by kernel_rfl) ?_
    simp (disch:=omega) only [↓wr,↓reduceIte,wq]
    refine GoB.split (fun he=>?_) (fun he=>?_)
    · simp (disch:=omega) only [↓wr,↓reduceIte,wq,fillE,Nat.reduceEqDiff,Nat.reduceAdd,Nat.reduceLT,Nat.reduceLeDiff,t1,t5,t6,lrE,List.getElem?_map,hx,encLr]
      intro q hq
      simp (disch:=omega) only [↓wr,↓reduceIte,wq,Nat.reduceEqDiff,elemsOf_new]
      refine goApp_all (ho.fresh hq) (by simp[cellOk]) (by unfold limit; rw[lrE_len]; simp; omega) (by unfold limit; rw[lrE_len]; simp; omega) ?_
      intro r2 H2 o2 _
      simp (disch:=omega) only [↓wr,↓reduceIte,wq,intOp,Nat.reduceEqDiff,reduceCtorEq,t6]
      rw[if_pos he] at hft
      exact up_next hk (by omega) ⟨r2,by rw[hft]; simpa [lrE,encLr] using o2,t1,t2,rfl,rfl⟩
    · simp (disch:=omega) only [↓wr,↓reduceIte,wq,intOp,Nat.reduceEqDiff,reduceCtorEq,t5,t6]
      rw[if_neg (by rw[he]; simp)] at hft
      exact up_next hk (by omega) ⟨r,by rw[hft]; exact ho,t1,t2,t5,rfl⟩
  · rw[List.take_of_length_le (by omega)] at ho
    have hfl:=List.length_filter_le (hasLrB g) l
    have hlr:lenV r=some (l.filter (hasLrB g)).length:=by rw[ho.len,lrE_len]
    have hall:∀ x∈l.filter (hasLrB g),right09 g=true∧HasLr g x:=fun x hx=>hasLrB_iff.1 (List.mem_filter.1 hx).2
    generalize l.filter (hasLrB g)=l' at *
    simp (disch:=omega) only [↓wr,↓reduceIte,wq,intOp,Nat.reduceEqDiff,reduceCtorEq,t5,hlr]
    refine GoB.eq (fun he=>?_) (fun he=>?_)
    · have:l'=[]:=List.length_eq_zero_iff.1 (by omega)
      subst this
      simp (disch:=omega) only [↓wr,↓reduceIte,wq,reduceCtorEq]
      intro h' _
      rw[closD_nil]
      exact .emp _
    · cases l' with
      | nil=>exact absurd rfl he
      | cons y l' =>
      have hf:=right09_fine (hall y (by simp)).1
      simp (disch:=omega) only [↓wr,↓reduceIte,wq,Nat.reduceEqDiff,Nat.reduceAdd,Nat.reduceLeDiff,t2,t5,encG,encS]
      refine CallG.loud ((mo_closure15 g hf (y :: l') (fun x hx=>(hall x hx).2) (by omega) r H' ho).mono ?_)
      rintro r2 H2 ⟨o2,_⟩
      simp (disch:=omega) only [↓wr,↓reduceIte,wq,reduceCtorEq]
      rintro h' rfl
      exact frn_lr o2
theorem edgeD_drop:∀ (l:List PEdg) (s:Int) (k:Nat) (e:PEdg),l[k]?=some e→edgeD (l.drop k) s=if e.sym=s then e.to else edgeD (l.drop (k+1)) s:=by
  intro l s k e h
  obtain ⟨hk,he⟩:=List.getElem?_eq_some_iff.1 h
  rw[List.drop_eq_getElem_cons hk,he,edgeD]
set_option maxHeartbeats 8000000 in
theorem pc_Walk15 (a:List StP) (ha:Short a) (he:∀ s∈a,Short s.edg∧∀ e∈s.edg,In64 e.sym∧In64 e.to) (fr:Int) (syms:List Int) (hs:Short syms):PCall Tryz.prog 37 [encSts a,gi fr,encI syms] (.tup [gi (walkD a fr syms).1,gb (walkD a fr syms).2]):=by
  unfold Short at ha hs
  refine PCall.tree (by
    intro v hv; simp at hv
    rcases hv with rfl | rfl | rfl
    · exact encSts_tree _
    · exact .val _
    · exact encI_tree _) (tree_tup2 (.val _) (.val _)) fun H=>?_
  refine MCall.of mixed S_gerundref15_Walk_ok ?_
  unfold walkD
  simp (disch:=omega) only [↓wr,↓reduceIte,wq,oneV,intOp,Nat.reduceEqDiff,Nat.reduceAdd,Nat.reduceLeDiff,S_gerundref15_Walk,encSts,encI]
  refine GoB.dec (fun h1=>?_) (fun h1=>?_)
  · simp (disch:=omega) only [↓wr,↓reduceIte,wq,Nat.reduceEqDiff,reduceCtorEq]
    rw[if_pos (by omega)]
  simp (disch:=omega) only [↓wr,↓reduceIte,wq,intOp,goI,Nat.reduceEqDiff,reduceCtorEq]
  refine GoB.dec (fun h2=>?_) (fun h2=>?_)
  · simp (disch:=omega) only [↓wr,↓reduceIte,wq,Nat.reduceEqDiff,reduceCtorEq]
    rw[if_pos (by omega)]
  rw[if_neg (by omega)]
  simp (disch:=omega) only [↓wr,wq]
  refine LoopG.up syms.length (fun i T H'=>∃ at_:Int,0≤at_∧at_ < a.length∧walkS1 a at_ (syms.drop i)=walkS1 a fr syms∧T 0=encSts a∧T 1=gi at_∧T 2=encI syms∧T 8=gi i) ⟨fr,by omega,by omega,rfl,rfl,rfl,rfl,rfl⟩ ?_
  rintro i k T H' hk ⟨at_,q1,q2,hw,t0,t1,t2,t8⟩
  simp (disch:=omega) only [↓wr,↓reduceIte,wq,intOp,goI,Nat.reduceEqDiff,Int.reduceNeg,reduceCtorEq,B_gerundref15_Walk_1,t2,t8,encI]
  refine GoB.dec (fun hc=>?_) (fun hc=>?_)
  · have hx:syms[i]?=some (syms[i]'(by omega)):=List.getElem?_eq_getElem (by omega)
    rw[List.drop_eq_getElem_cons (show i < syms.length by omega)] at hw
    generalize syms[i]'(by omega)=x at hx hw
    have hS:a[at_.toNat]?=some (a.getD at_.toNat noSt):=getD_some (by omega)
    obtain ⟨hE1,hE2⟩:=he _ (List.mem_of_getElem? hS)
    rw[walkS1] at hw
    generalize a.getD at_.toNat noSt=S at hS hE1 hE2 hw
    unfold Short at hE1
    simp (disch:=omega) only [↓wr,wq,Int.reduceNeg]
    refine LoopG.up S.edg.length (fun j T H'=>∃ (to:Int) (ok:Bool),(ok=true→to=edgeD S.edg x)∧(ok=false→to = -1∧edgeD (S.edg.drop j) x=edgeD S.edg x)∧T 0=encSts a∧T 1=gi at_∧T 2=encI syms∧T 8=gi i∧T 9=gi to∧T 10=gb ok∧T 11=gi j)
      ⟨-1,false,by simp,fun _=>⟨rfl,rfl⟩,t0,t1,t2,t8,rfl,rfl,rfl⟩ ?_
    clear t0 t1 t2 t8
    rintro j k2 T2 H2 hk2 ⟨to,ok,p1,p2,t0,t1,t2,t8,t9,t10,t11⟩
    cases ok with
    | true =>
      have hto:=p1 rfl
      simp (disch:=omega) only [↓wr,↓reduceIte,wq,intOp,goI,Nat.reduceEqDiff,Nat.reduceAdd,Nat.reduceLT,Int.reduceNeg,reduceCtorEq,B_gerundref15_Walk_0,t0,t1,t11,encSts,List.getElem?_map,hS,encSt,pdE]
      refine GoB.dec (fun _=>?_) (fun _=>?_)
      all_goals (
        simp (disch:=omega) only [↓wr,↓reduceIte,wq,Nat.reduceEqDiff,Int.reduceNeg,reduceCtorEq,t1,t8,t9,t10,hto]
        refine GoB.dec (fun h3=>?_) (fun h3=>?_)
        · simp (disch:=omega) only [↓wr,↓reduceIte,wq,intOp,Nat.reduceEqDiff,reduceCtorEq]
          rw[← hw,if_neg (by omega)]
        · simp (disch:=omega) only [↓wr,↓reduceIte,wq,intOp,goI,Nat.reduceEqDiff,reduceCtorEq,t0,t9,encSts,hto]
          refine GoB.dec (fun h4=>?_) (fun h4=>?_)
          · simp (disch:=omega) only [↓wr,↓reduceIte,wq,intOp,Nat.reduceEqDiff,reduceCtorEq]
            rw[← hw,if_neg (by omega)]
          · simp (disch:=omega) only [↓wr,↓reduceIte,wq,intOp,Nat.reduceEqDiff,reduceCtorEq,t8,t9,hto]
            rw[if_pos ⟨by omega,by omega⟩] at hw
            exact up_next hk (by omega) ⟨_,by omega,by omega,hw,t0,rfl,t2,rfl⟩)
    | false =>
      obtain ⟨p3,p4⟩:=p2 rfl
      simp (disch:=omega) only [↓wr,↓reduceIte,wq,intOp,goI,Nat.reduceEqDiff,Nat.reduceAdd,Nat.reduceLT,Int.reduceNeg,reduceCtorEq,B_gerundref15_Walk_0,t0,t1,t11,encSts,List.getElem?_map,hS,encSt,pdE]
      refine GoB.dec (fun hc2=>?_) (fun hc2=>?_)
      · have hE:S.edg[j]?=some (S.edg[j]'(by omega)):=List.getElem?_eq_getElem (by omega)
        generalize S.edg[j]'(by omega)=E at hE
        rw[edgeD_drop _ _ _ _ hE] at p4
        simp (disch:=omega) only [↓wr,↓reduceIte,wq,intOp,Nat.reduceEqDiff,Nat.reduceAdd,Nat.reduceLT,Int.reduceNeg,reduceCtorEq,t0,t1,t2,t8,t10,t11,encSts,encI,List.getElem?_map,hS,hx,encSt,pdE,hE,encPd]
        refine GoB.eq (fun h5=>?_) (fun h5=>?_)
        · rw[if_pos h5] at p4
          simp (disch:=omega) only [↓wr,↓reduceIte,wq,intOp,Nat.reduceEqDiff,Nat.reduceAdd,Nat.reduceLT,Int.reduceNeg,reduceCtorEq,t0,t1,t8,t11,encSts,List.getElem?_map,hS,encSt,pdE,hE,encPd]
          exact up_next hk2 (by omega) ⟨E.to,true,fun _=>p4,by simp,t0,t1,t2,t8,rfl,rfl,rfl⟩
        · rw[if_neg h5] at p4
          simp (disch:=omega) only [↓wr,↓reduceIte,wq,intOp,Nat.reduceEqDiff,Int.reduceNeg,reduceCtorEq,t1,t8,t9,t11]
          exact up_next hk2 (by omega) ⟨to,false,by simp,fun _=>⟨p3,p4⟩,t0,t1,t2,t8,t9,t10,rfl⟩
      · rw[List.drop_eq_nil_of_le (by omega),edgeD,← p3] at p4
        have hto:=p4
        simp (disch:=omega) only [↓wr,↓reduceIte,wq,Nat.reduceEqDiff,Int.reduceNeg,reduceCtorEq,t1,t8,t9,hto]
        refine GoB.dec (fun h3=>?_) (fun h3=>?_)
        · simp (disch:=omega) only [↓wr,↓reduceIte,wq,intOp,Nat.reduceEqDiff,reduceCtorEq]
          rw[← hw,if_neg (by omega)]
        · simp (disch:=omega) only [↓wr,↓reduceIte,wq,intOp,goI,Nat.reduceEqDiff,reduceCtorEq,t0,t9,encSts,hto]
          refine GoB.dec (fun h4=>?_) (fun h4=>?_)
          · simp (disch:=omega) only [↓wr,↓reduceIte,wq,intOp,Nat.reduceEqDiff,reduceCtorEq]
            rw[← hw,if_neg (by omega)]
          · simp (disch:=omega) only [↓wr,↓reduceIte,wq,intOp,Nat.reduceEqDiff,reduceCtorEq,t8,t9,hto]
            rw[if_pos ⟨by omega,by omega⟩] at hw
            exact up_next hk (by omega) ⟨_,by omega,by omega,hw,t0,rfl,t2,rfl⟩
  · simp (disch:=omega) only [↓wr,↓reduceIte,wq,Nat.reduceEqDiff,reduceCtorEq,t1]
    rw[List.drop_eq_nil_of_le (by omega),walkS1] at hw
    rw[← hw]
def lsE (ls:List (List LrI)):List (List V):=ls.map fun l=>[.fro (lrE l)]
def encWk (g:Gram) (a:List StP) (ul us:V) (more:Bool):List V:=[.fro (g.terms.map encT),.fro (g.nons.map fun s=>[gs s]),.fro (g.rules.map encR),gi g.start,encSts a,ul,us,gb more]
def zipW:List V→Sets→List Ent
  | v :: vs,s :: ss=>(v,1,wordsE s) :: zipW vs ss
  | _,_=>[]
structure CoreW (H:View) (b:Nat) (g:Gram) (a:List StP) (ul us:V) (vs:List V) (ls:List (List LrI)) (ss:Sets) (more:Bool) (L:List Ent):Prop where
  len:vs.length=ss.length
  own:Owns H ((.sl b 0 1 8,8,[encWk g a ul us more]) :: (ul,1,lsE ls) :: (us,1,vs.map fun v=>[v]) :: (zipW vs ss ++ L))
theorem zipW_split:∀ (vs:List V) (ss:Sets) (i:Nat) (v:V),vs.length=ss.length→vs[i]?=some v→∃ P Q,zipW vs ss=P ++ (v,1,wordsE (ss.getD i [])) :: Q∧∀ r,zipW vs (ss.set i r)=P ++ (v,1,wordsE r) :: Q
  | [],_,i,v,_,h=>by simp at h
  | x :: vs,[],i,v,h,_=>by simp at h
  | x :: vs,s :: ss,0,v,_,h=>by
    simp at h; subst h
    exact ⟨[],zipW vs ss,rfl,fun r=>rfl⟩
  | x :: vs,s :: ss,i+1,v,hl,h=>by
    obtain ⟨P,Q,h1,h2⟩:=zipW_split vs ss i v (by simpa using hl) (by simpa using h)
    refine ⟨(x,1,wordsE s) :: P,Q,?_,fun r=>?_⟩
    · simp[zipW,h1]
    · simp[zipW,h2]
section
variable {H:View} {b:Nat} {g:Gram} {a:List StP} {ul us:V} {vs:List V} {ls:List (List LrI)} {ss:Sets} {more:Bool} {L:List Ent}
theorem CoreW.box (h:CoreW H b g a ul us vs ls ss more L):H b=.arr 8 [encWk g a ul us more]:=h.own.is 0 rfl (by simp)
theorem CoreW.lists (h:CoreW H b g a ul us vs ls ss more L) (hl:0 < ls.length):∃ n,ul=.sl n 0 ls.length 1∧H n=.arr 1 (lsE ls):=by
  obtain ⟨n,h1,h2⟩:=(h.own.own 1 rfl).sl (by simpa [lsE] using hl)
  exact ⟨n,by simpa [lsE] using h1,h2⟩
theorem CoreW.sets (h:CoreW H b g a ul us vs ls ss more L) (hl:0 < ss.length):∃ n,us=.sl n 0 ss.length 1∧H n=.arr 1 (vs.map fun v=>[v]):=by
  obtain ⟨n,h1,h2⟩:=(h.own.own 2 rfl).sl (by simpa [h.len] using hl)
  exact ⟨n,by simpa [h.len] using h1,h2⟩
theorem CoreW.listsAt {n k:Nat} (h:CoreW H b g a (.sl n 0 k 1) us vs ls ss more L) (hl:0 < ls.length):H n=.arr 1 (lsE ls)∧k=ls.length:=by
  obtain ⟨m,h1,h2⟩:=h.lists hl
  simp only[V.sl.injEq] at h1
  obtain ⟨rfl,_,rfl,_⟩:=h1
  exact ⟨h2,rfl⟩
theorem CoreW.setsAt {n k:Nat} (h:CoreW H b g a ul (.sl n 0 k 1) vs ls ss more L) (hl:0 < ss.length):H n=.arr 1 (vs.map fun v=>[v])∧k=ss.length:=by
  obtain ⟨m,h1,h2⟩:=h.sets hl
  simp only[V.sl.injEq] at h1
  obtain ⟨rfl,_,rfl,_⟩:=h1
  exact ⟨h2,rfl⟩
theorem CoreW.row (h:CoreW H b g a ul us vs ls ss more L) {i:Nat} {v:V} (hv:vs[i]?=some v):OwnA H v 1 (wordsE (ss.getD i [])):=by
  obtain ⟨P,Q,h1,_⟩:=zipW_split vs ss i v h.len hv
  refine h.own.1 (v,1,wordsE (ss.getD i [])) (List.mem_cons_of_mem _ (List.mem_cons_of_mem _ (List.mem_cons_of_mem _ (List.mem_append_left _ ?_))))
  rw[h1]; simp
theorem perm_row {α:Type} {x y z e:α} {P Q L:List α} : (x :: y :: z :: ((P ++ e :: Q) ++ L)).Perm (e :: x :: y :: z :: ((P ++ Q) ++ L)):=by
  have h:((P ++ e :: Q) ++ L).Perm (e :: ((P ++ Q) ++ L)):=by
    simp
  exact (((h.cons z).cons y).cons x).trans (List.perm_middle (a:=e) (l₁:=[x,y,z]) (l₂:=(P ++ Q) ++ L))
theorem CoreW.put (h:CoreW H b g a ul us vs ls ss more L) {i n k:Nat} (hv:vs[i]?=some (.sl n 0 k 1)) {r:List BV} (hr:r.length=(ss.getD i []).length) (hk:k=(ss.getD i []).length):CoreW (H.set n (.arr 1 (wordsE r))) b g a ul us vs ls (ss.set i r) more L:=by
  obtain ⟨P,Q,h1,h2⟩:=zipW_split vs ss i _ h.len hv
  refine ⟨by rw[List.length_set]; exact h.len,?_⟩
  have o:=h.own
  rw[h1] at o
  have o2:=(o.perm perm_row).put (es':=wordsE r) (by simp[hr]) (by simp[hk])
  rw[h2]
  exact o2.perm perm_row.symm
theorem CoreW.flag (h:CoreW H b g a ul us vs ls ss more L) (m:Bool):CoreW (H.set b (.arr 8 [encWk g a ul us m])) b g a ul us vs ls ss m L:=⟨h.len,h.own.put rfl rfl⟩
theorem CoreW.fresh (h:CoreW H b g a ul us vs ls ss more L) {n:Nat} {o:AObj} (hn:H n=.dead):CoreW (H.set n o) b g a ul us vs ls ss more L:=⟨h.len,h.own.fresh hn⟩
end
theorem ls_get {ls:List (List LrI)} {i:Nat} (h:i < ls.length):(lsE ls).getD i []=[.fro (lrE (ls.getD i []))]:=by simp[lsE,List.getD_eq_getElem?_getD,h]
theorem vs_get {vs:List V} {i:Nat} {v:V} (h:vs[i]?=some v):(vs.map fun v=>[v]).getD i []=[v]:=by simp[List.getD_eq_getElem?_getD,h]
def B_gerundref16_work_give_0:SC :=
  .seq (.seq (ab [aa 9 8,aa 10 0,ax 11 10,af 12 5 11,ae 13 12,aa 14 1,av 15 1 13 14,ae 16 15,aj 17 16,ak 18 .lss 9 17]) <|
  .cond (.tmp 18) (.skip) (.exit 0)) <|
  .seq (.block 1 (.seq (.region false [⟨none,[aa 21 0,ax 22 21,af 23 5 22,ae 24 23,aa 25 1,av 26 1 24 25,ae 27 26,aa 28 8,av 29 2 27 28,au 30 2 29,au 31 2 6,((some 32),.op (.old (.binOp .eql 55 (.tmp 30) (.tmp 31) 55) 4)),aa 33 32]⟩,⟨(some (33,true)),[aa 34 3,aa 35 0,ax 36 35,af 37 6 36,ae 38 37,aa 39 1,av 40 1 38 39,ae 41 40,aa 42 8,av 43 1 41 42,ae 44 43,ak 45 .andNot 34 44,((some 46),.op (.arith .neq (.tmp 45) (.val (.val (.int .u32 0)))))]⟩,⟨none,[az 47 33 46]⟩]) <|
  .cond (.tmp 47) (.seq (ab [aa 48 0,ax 49 48,af 50 6 49,ae 51 50,aa 52 1,av 53 1 51 52,ae 54 53,aa 55 8,aa 56 0,ax 57 56,af 58 6 57,ae 59 58,aa 60 1,av 61 1 59 60,ae 62 61,aa 63 8,av 64 1 62 63,ae 65 64,aa 66 3,ak 67 .or 65 66,av 68 1 54 55,(none,.op (.store 1 (.tmp 68) (.tmp 67)))]) <|
  ab [aa 69 0,ax 70 69,af 71 7 70,(none,.op (.store 1 (.tmp 71) (.val (.val (.bool true)))))]) (.skip))) <|
  ab [aa 19 8,ah 20 .add 19 1,aa 8 20]
def S_gerundref16_work_give:SF:=⟨.seq (ab [aC 6 2]) <|
  .seq (ab [ai 8 0]) <|
  .block 0 (.loop B_gerundref16_work_give_0),
  [],72⟩
theorem S_gerundref16_work_give_ok:compF Tryz.prog 94 [6]=some S_gerundref16_work_give:=by kernel_rfl
def rowTo (l:List LrI) (row:List BV) (x:LrI) (s:BV) (i:Nat):List BV:=(giveRow l row x s).take i ++ row.drop i
theorem rowTo_len {l:List LrI} {row:List BV} {x:LrI} {s:BV} (h:row.length=l.length) (i:Nat) (hi:i≤l.length):(rowTo l row x s i).length=row.length:=by
  simp[rowTo,giveRow_len h]; omega
theorem rowTo_get {l:List LrI} {row:List BV} {x:LrI} {s:BV} (h:row.length=l.length) {i:Nat} (hi:i < l.length):(rowTo l row x s i)[i]?=row[i]?:=by
  unfold rowTo
  rw[List.getElem?_append_right (by simp[giveRow_len h]; omega)]
  simp[giveRow_len h,Nat.min_eq_left (show i≤row.length by omega)]
theorem rowTo_next {l:List LrI} {row:List BV} {x:LrI} {s:BV} (h:row.length=l.length) {i:Nat} {y:LrI} {v:BV} (hy:l[i]?=some y) (hv:row[i]?=some v):rowTo l row x s (i+1)=if y=x then (rowTo l row x s i).set i (v ||| s) else rowTo l row x s i:=by
  have hi:=(List.getElem?_eq_some_iff.1 hy).1
  have hg:(giveRow l row x s)[i]?=some (if y=x then v ||| s else v):=by simp[giveRow,List.getElem?_zipWith,hy,hv]
  have hd:row.drop i=v :: row.drop (i+1):=by
    obtain ⟨q,e⟩:=List.getElem?_eq_some_iff.1 hv
    rw[List.drop_eq_getElem_cons q,e]
  have hl:((giveRow l row x s).take i).length=i:=by simp[giveRow_len h]; omega
  unfold rowTo
  rw[List.take_add_one,hg,hd]
  split
  · rw[List.set_append_right _ _ (by omega),hl,Nat.sub_self,List.set_cons_zero]
    simp
  · simp
theorem set_getD {α:Type} {l:List α} {i:Nat} {d:α} (h:i < l.length):l.set i (l.getD i d)=l:=by
  rw[List.getD_eq_getElem?_getD,List.getElem?_eq_getElem h]
  exact List.set_getElem_self h
theorem lsE_len (ls:List (List LrI)):(lsE ls).length=ls.length:=by simp[lsE]
theorem words_set (l:List BV) (i:Nat) (z:BV):(wordsE l).set i [gw z]=wordsE (l.set i z):=by rw[wordsE,wordsE,List.map_set]
theorem wordsE_len (l:List BV):(wordsE l).length=l.length:=by simp
theorem set_same2 {α:Type} (l:List α) (i:Nat) (x y:α):(l.set i x).set i y=l.set i y:=by simp
theorem set_eq_self {α:Type} {l:List α} {i:Nat} {r d:α} (h:i < l.length):l.set i r=l↔r=l.getD i d:=by
  constructor
  · intro e
    have h2:(l.set i r).getD i d=l.getD i d:=by rw[e]
    rw[getD_setL,if_pos ⟨rfl,h⟩] at h2
    exact h2
  · rintro rfl; exact set_getD h
set_option maxHeartbeats 8000000 in
theorem mc_give (g:Gram) (a:List StP) (ul us:V) (vs:List V) (ls:List (List LrI)) (ss:Sets) (more:Bool) (L:List Ent) (b:Nat) (H:View) (hc:CoreW H b g a ul us vs ls ss more L) (hsh:Shp ls ss) (hsm:∀ l∈ls,l.length≤10000) (st:Nat) (hst:st < ls.length) (x:LrI) (s:BV) :
    MCall Tryz.prog 94 [.ptr b 0 0,gi st,.agg (encLr x),gw s] H fun _ H'=>CoreW H' b g a ul us vs ls (giveD ls ss st x s) (more || decide (giveD ls ss st x s≠ss)) L:=by
  refine MCall.of mixed S_gerundref16_work_give_ok ?_
  have hss:st < ss.length:=by rw[hsh.1]; exact hst
  have hl:=ls_get hst
  have hlm:=hsm _ (List.mem_of_getElem? (getD_some (d:=[]) hst))
  have hrl:=hsh.2 st
  have hv:vs[st]?=some (vs[st]'(by rw[hc.len]; exact hss)):=List.getElem?_eq_getElem _
  generalize vs[st]'(by rw[hc.len]; exact hss)=v at hv
  obtain ⟨nl,rfl,_⟩:=hc.lists (by omega)
  obtain ⟨nu,rfl,_⟩:=hc.sets (by omega)
  simp (disch:=omega) only [↓wr,wq,oneV,Nat.reduceAdd,Nat.reduceLeDiff,S_gerundref16_work_give,encLr]
  unfold giveD
  generalize ls.getD st []=l at *
  generalize hrow:ss.getD st []=row at *
  refine LoopG.up l.length (fun i T H'=>∃ m:Bool,(m=(more || decide (rowTo l row x s i≠row)))∧CoreW H' b g a (.sl nl 0 ls.length 1) (.sl nu 0 ss.length 1) vs ls (ss.set st (rowTo l row x s i)) m L∧T 0=.ptr b 0 0∧T 1=gi st∧T 3=gw s∧T 6=.fptr (encLr x) 0∧T 8=gi i) ?_ ?_
  · have e0:rowTo l row x s 0=row:=by simp[rowTo]
    refine ⟨more,by rw[e0]; simp,?_,rfl,rfl,rfl,rfl,rfl⟩
    rw[e0,← hrow,set_getD hss]
    exact hc
  rintro i k T H' hk ⟨m,hm,hc,t0,t1,t3,t6,t8⟩
  have hb:=hc.box
  have hnl:=(hc.listsAt (by omega)).1
  simp (disch:=omega) only [↓wr,↓reduceIte,wq,intOp,goI,Nat.reduceEqDiff,Nat.reduceAdd,Nat.reduceLT,reduceCtorEq,B_gerundref16_work_give_0,t0,t1,t8,hb,encWk,hnl,hl,lsE_len,lrE_len]
  refine ⟨hst,hst,?_⟩
  refine GoB.dec (fun hc2=>?_) (fun hc2=>?_)
  · have hil:i < l.length:=by omega
    have hy:l[i]?=some (l[i]'hil):=List.getElem?_eq_getElem hil
    have hw:row[i]?=some (row[i]'(by omega)):=List.getElem?_eq_getElem (by omega)
    generalize l[i]'hil=y at hy
    generalize row[i]'(by omega)=w at hw
    have hcur:=rowTo_get (x:=x) (s:=s) hrl hil
    rw[hw] at hcur
    have hclen:=rowTo_len (x:=x) (s:=s) hrl i (by omega)
    have hnx:=rowTo_next (x:=x) (s:=s) hrl hy hw
    have hcs:(ss.set st (rowTo l row x s i)).getD st []=rowTo l row x s i:=by rw[getD_setL,if_pos ⟨rfl,hss⟩]
    have hro:=hc.row hv
    rw[hcs] at hro
    obtain ⟨nv,hv',hnv⟩:=hro.sl (by rw[wordsE_len]; omega)
    have hnu:=(hc.setsAt (by rw[List.length_set]; omega)).1
    have hbn:¬ b=nv:=by rintro rfl; rw[hb] at hnv; simp at hnv
    rw[wordsE_len] at hv'
    generalize hcu:rowTo l row x s i=cur at *
    simp (disch:=omega) only [↓wr,↓reduceIte,wq,Nat.reduceEqDiff,Nat.reduceAdd,Nat.reduceLT,Nat.reduceLeDiff,reduceCtorEq,t0,t1,t6,t8,hb,encWk,hnl,hl,lsE_len,lrE,List.getElem?_map,hy,encLr]
    refine ⟨hst,hst,?_⟩
    refine oldStructEq (xs:=#[.int .i64 y.rule,.int .i64 y.dot]) (ys:=#[.int .i64 x.rule,.int .i64 x.dot]) Tryz.underlying55 (by kernel_rfl) (by kernel_rfl) ?_ ?_ (fields_lr y x) (.inl ⟨rfl,rfl⟩) ?_
    · rfl
    · rfl
    rw[lr_eq0]
    simp (disch:=omega) only [↓wr,↓reduceIte,wq]
    have same:rowTo l row x s (i+1)=cur→∀ T':Env,T' 0=.ptr b 0 0→T' 1=gi st→T' 3=gw s→T' 6=.fptr (encLr x) 0→T' 8=gi ((i:Int)+1)→∃ k',k' < k∧UpN l.length k' (fun i T H'=>∃ m:Bool,(m=(more || decide (rowTo l row x s i≠row)))∧CoreW H' b g a (.sl nl 0 ls.length 1) (.sl nu 0 ss.length 1) vs ls (ss.set st (rowTo l row x s i)) m L∧T 0=.ptr b 0 0∧T 1=gi st∧T 3=gw s∧T 6=.fptr (encLr x) 0∧T 8=gi i) T' H':=fun e T' e0 e1 e3 e6 e8 =>
      up_next hk hil ⟨m,by rw[e]; exact hm,by rw[e]; exact hc,e0,e1,e3,e6,e8⟩
    refine GoB.dec (fun he=>?_) (fun he=>?_)
    rotate_left
    · rw[if_neg he] at hnx
      simp (disch:=omega) only [↓wr,↓reduceIte,wq,intOp,Nat.reduceEqDiff,reduceCtorEq,t8]
      exact same hnx _ t0 t1 t3 t6 rfl
    rw[if_pos he] at hnx
    simp (disch:=omega) only [↓wr,↓reduceIte,wq,intOp,Nat.reduceEqDiff,Nat.reduceAdd,Nat.reduceLT,reduceCtorEq,t0,t1,t3,t8,hb,encWk,hnu,vs_get hv,hv',hnv,gw_get hcur,andNot32]
    refine ⟨by omega,by rw[hc.len,List.length_set]; omega,by omega,by omega,?_⟩
    refine GoB.ne (fun hz=>?_) (fun hz=>?_)
    · have hnsub:¬ SubS s w:=fun h=>hz (toNat_zero.2 (andNot_zero.2 h))
      have hc2:=hc.put (r:=cur.set i (w ||| s)) (by rw[← hv']; exact hv) (by rw[hcs,List.length_set]) (by rw[hcs])
      rw[set_same2] at hc2
      have hb2:=hc2.box
      simp (disch:=omega) only [↓wr,↓reduceIte,wq,intOp,splice,Nat.reduceEqDiff,Nat.reduceAdd,Nat.reduceLT,Nat.reduceLeDiff,reduceCtorEq,t0,t1,t3,t8,hb,encWk,hnu,vs_get hv,hv',hnv,gw_get hcur,or32,words_set,hbn]
      have hvl:st < vs.length:=by rw[hc.len,List.length_set]; exact hss
      have hch:rowTo l row x s (i+1)≠row:=fun e=>by
        have h1:(cur.set i (w ||| s))[i]?=some (w ||| s):=by rw[List.getElem?_set_self (by omega)]
        rw[← hnx,e,hw] at h1
        simp only[Option.some.injEq] at h1
        rw[BitVec.or_comm] at h1
        exact hnsub (subS_or.1 h1.symm)
      refine ⟨hss,hvl,hss,hvl,by omega,by omega,by omega,by omega,up_next hk hil ⟨true,by rw[decide_eq_true hch,Bool.or_true],?_,t0,t1,t3,t6,rfl⟩⟩
      rw[hnx]
      exact hc2.flag true
    · have hsub:SubS s w:=andNot_zero.1 (toNat_zero.1 hz)
      simp (disch:=omega) only [↓wr,↓reduceIte,wq,intOp,Nat.reduceEqDiff,reduceCtorEq,t8]
      refine same ?_ _ t0 t1 t3 t6 rfl
      rw[hnx,show w ||| s=w by rw[BitVec.or_comm]; exact subS_or.2 hsub]
      obtain ⟨q,e⟩:=List.getElem?_eq_some_iff.1 hcur
      rw[← e]; exact List.set_getElem_self q
  · have hil:i=l.length:=by omega
    have e:rowTo l row x s i=giveRow l row x s:=by
      subst hil
      unfold rowTo
      rw[List.take_of_length_le (by rw[giveRow_len hrl]; omega),List.drop_eq_nil_of_le (by omega),List.append_nil]
    rw[e] at hm hc
    simp (disch:=omega) only [↓wr,↓reduceIte,wq,reduceCtorEq]
    rw[hm] at hc
    rw[show decide (ss.set st (giveRow l row x s)≠ss)=decide (giveRow l row x s≠row) by
      simp only[ne_eq,set_eq_self (d:=[]) hss,hrow]]
    exact hc
theorem perm_in {α:Type} {x y z e:α} {Z L:List α} : (x :: y :: z :: (Z ++ e :: L)).Perm (e :: x :: y :: z :: (Z ++ L)) :=
  ((((List.perm_middle (a:=e) (l₁:=Z) (l₂:=L)).cons z).cons y).cons x).trans (List.perm_middle (a:=e) (l₁:=[x,y,z]) (l₂:=Z ++ L))
section
variable {H:View} {b:Nat} {g:Gram} {a:List StP} {ul us:V} {vs:List V} {ls:List (List LrI)} {ss:Sets} {more:Bool} {L:List Ent}
theorem CoreW.newL (h:CoreW H b g a ul us vs ls ss more L) {n:Nat} (hn:H n=.dead) (sz:Nat) (es:List (List V)):CoreW (H.set n (.arr sz es)) b g a ul us vs ls ss more ((.sl n 0 es.length sz,sz,es) :: L) :=
  ⟨h.len,(h.own.new hn sz es).perm perm_in.symm⟩
theorem CoreW.drop {e:Ent} (h:CoreW H b g a ul us vs ls ss more (e :: L)):CoreW H b g a ul us vs ls ss more L :=
  ⟨h.len,(h.own.perm perm_in).tail⟩
theorem CoreW.inL {n k sz:Nat} {es:List (List V)} (h:CoreW H b g a ul us vs ls ss more ((.sl n 0 k sz,sz,es) :: L)) (he:0 < es.length):H n=.arr sz es :=
  (h.own.perm perm_in).is 0 rfl he
end
theorem ne_trans {s0 s1 s2:Sets} (h:LeS s0 s1) (k:LeS s1 s2):(decide (s1≠s0) || decide (s2≠s1))=decide (s2≠s0):=by
  rw[Bool.eq_iff_iff]
  simp only[Bool.or_eq_true,decide_eq_true_eq]
  constructor
  · rintro (e | e) e2
    · subst e2; exact e (k.anti h)
    · subst e2; exact e (h.anti k)
  · intro e
    by_cases e1:s1=s0
    · exact .inr (by rw[e1]; exact e)
    · exact .inl e1
theorem ofG_rest {g:Gram} (hr:right09 g=true) {x:LrI} (hx:HasLr g x) (s:BV):ofG g (restLr g x) s=ofD (grown09 g false) (firstD g (grown09 g false)) s (restLr g x):=by
  have h:right09 g=true∧∀ s∈restLr g x,hasG g s=true:=⟨hr,fun y hy=>by
    unfold restLr at hy
    split at hy
    · have hR:g.rules[x.rule.toNat]?=some (ruleD g x.rule):=by unfold ruleD; exact getD_some (by have:=hx.1; omega)
      exact (right09_fine hr).sym _ (List.mem_of_getElem? hR) y (List.mem_of_mem_drop hy)
    · simp at hy⟩
  rw[ofG,if_pos h]
structure WorkOk (g:Gram) (a:List StP) (ls:List (List LrI)):Prop where
  gok:g.Ok
  right:right09 g=true
  len:ls.length=a.length
  len1:1≤a.length
  short:a.length≤300
  edg:∀ s∈a,Short s.edg∧∀ e∈s.edg,In64 e.sym∧In64 e.to
  item:∀ l∈ls,l.length≤10000∧∀ x∈l,HasLr g x
def B_gerundref16_work_pass_0:SC :=
  .seq (.seq (ab [aa 96 13,aa 97 0,ax 98 97,af 99 0 98,af 100 2 99,ae 101 100,aj 102 101,ak 103 .lss 96 102]) <|
  .cond (.tmp 103) (.skip) (.exit 0)) <|
  .seq (.block 1 (.seq (ab [aa 106 0,ax 107 106,af 108 0 107,af 109 2 108,ae 110 109,aa 111 13,av 112 3 110 111,af 113 0 112,ae 114 113,aa 115 8,((some 116),.op (.arith .sub (.val (.val (.int .i64 (-1)))) (.tmp 115))),ak 117 .eql 114 116]) <|
  .cond (.tmp 117) (ab [aa 118 0,aa 119 1,aa 120 13,((some 121),.op (.build [(.val (.int .i64 0)),(.val (.int .i64 0))] [(0,1,(.tmp 120))])),aa 122 7,ao 123 94 [118,119,121,122]]) (.skip))) <|
  ab [aa 104 13,ah 105 .add 104 1,aa 13 105]
def S_gerundref16_work_pass:SF:=⟨.seq (ab [aa 14 0,ax 15 14,af 16 5 15,ae 17 16,aa 18 1,av 19 1 17 18,ae 20 19,aa 21 2,av 22 2 20 21,au 23 2 22,aa 24 0,ax 25 24,af 26 6 25,ae 27 26,aa 28 1,av 29 1 27 28,ae 30 29,aa 31 2,av 32 1 30 31,ae 33 32,((some 6),.op (.alloc [(.val (.int .i64 0)),(.val (.int .i64 0))])),(none,.op (.store 2 (.tmp 6) (.tmp 23))),aa 7 33]) <|
  .seq (ab [aa 35 0,ax 36 35,af 37 0 36,au 38 4 37,au 39 2 6,ao 40 26 [38,39],aa 34 40,aA 41 0 34,aA 42 1 34,aa 8 41,aa 9 42]) <|
  .seq (.seq (.region false [⟨none,[aa 43 9,aB 44 43,aa 45 44]⟩,⟨(some (45,false)),[aa 46 7,((some 47),.op (.arith .eql (.tmp 46) (.val (.val (.int .u32 0)))))]⟩,⟨none,[ay 48 45 47]⟩]) <|
  .cond (.tmp 48) (.ret) (.skip)) <|
  .seq (ab [aa 50 0,ax 51 50,af 52 4 51,ae 53 52,aa 54 1,aa 55 8,((some 56),.op (.bslice 1 1 [(.val (.int .i64 0))] [(0,(.tmp 55))])),ao 57 37 [53,54,56],aa 49 57,aA 58 0 49,aA 59 1 49,aa 10 58,aa 11 59]) <|
  .seq (ab [aa 60 0,aa 61 10,af 62 0 6,ae 63 62,af 64 1 6,ae 65 64,ah 66 .add 65 1,((some 67),.op (.build [(.val (.int .i64 0)),(.val (.int .i64 0))] [(0,1,(.tmp 63)),(1,1,(.tmp 66))])),aa 68 7,ao 69 94 [60,61,67,68]]) <|
  .seq (.seq (ab [aa 70 8,ah 71 .geq 70 0]) <|
  .cond (.tmp 71) (.ret) (.skip)) <|
  .seq (ab [((some 12),.op (.mov (.val (.emp 1))))]) <|
  .seq (.seq (ab [af 72 0 6,ae 73 72,ah 74 .geq 73 0]) <|
  .cond (.tmp 74) (ab [aa 75 0,ax 76 75,af 77 0 76,af 78 2 77,ae 79 78,af 80 0 6,ae 81 80,av 82 3 79 81,af 83 1 82,ae 84 83,af 85 1 6,ae 86 85,ah 87 .add 86 1,((some 88),.op (.slice 1 (.tmp 84) (some (.tmp 87)) none)),aa 12 88]) (.skip)) <|
  .seq (ab [aa 89 0,ax 90 89,af 91 0 90,au 92 4 91,aa 93 12,aa 94 7,ao 95 139 [92,93,94],aa 7 95]) <|
  .seq (ab [ai 13 0]) <|
  .block 0 (.loop B_gerundref16_work_pass_0),
  [],124⟩
theorem S_gerundref16_work_pass_ok:compF Tryz.prog 96 []=some S_gerundref16_work_pass:=by kernel_rfl
theorem has_in64 {g:Gram} (hf:g.Fine) {x:LrI} (h:HasLr g x):In64 x.rule∧In64 x.dot:=by
  have:=rightLr_len hf h.1
  have:=hf.rules
  obtain ⟨⟨h1,h2⟩,h3,h4⟩:=h
  unfold In64; omega
theorem Lent.nil {H:View} {k:Nat} : Lent H (.emp k) (encI []):=fun _ _=>.emp k
set_option maxHeartbeats 16000000 in
theorem mc_pass (g:Gram) (a:List StP) (ul us:V) (vs:List V) (ls:List (List LrI)) (ss:Sets) (more:Bool) (L:List Ent) (b:Nat) (H:View) (hW:WorkOk g a ls) (hc:CoreW H b g a ul us vs ls ss more L) (hsh:Shp ls ss) (i k:Nat) (hi:i < ls.length) (hk:k < (ls.getD i []).length) :
    MCall Tryz.prog 96 [.ptr b 0 0,gi i,gi k] H fun _ H'=>CoreW H' b g a ul us vs ls (passD g (grown09 g false) a ls i k ss) (more || decide (passD g (grown09 g false) a ls i k ss≠ss)) L:=by
  refine MCall.of mixed S_gerundref16_work_pass_ok ?_
  have hf:=right09_fine hW.right
  have hsm:∀ l∈ls,l.length≤10000:=fun l hl=>(hW.item l hl).1
  have hla:=hW.len
  have h300:=hW.short
  have hru:=hf.rules
  have hss:i < ss.length:=by rw[hsh.1]; exact hi
  have hl:=ls_get hi
  have hlm:=hW.item _ (List.mem_of_getElem? (getD_some (d:=[]) hi))
  have hrl:=hsh.2 i
  have hx:(ls.getD i [])[k]?=some ((ls.getD i []).getD k ⟨0,0⟩):=getD_some hk
  have hw:(ss.getD i [])[k]?=some (getS ss i k):=getD_some (by omega)
  have hxH:=hlm.2 _ (List.mem_of_getElem? hx)
  have hpk:=passD_ok (null:=grown09 g false) (g:=g) hla hW.len1 hi k hsh
  have hv:vs[i]?=some (vs[i]'(by rw[hc.len]; exact hss)):=List.getElem?_eq_getElem _
  generalize vs[i]'(by rw[hc.len]; exact hss)=v at hv
  obtain ⟨nl,rfl,hnl⟩:=hc.lists (by omega)
  obtain ⟨nu,rfl,hnu⟩:=hc.sets (by omega)
  obtain ⟨nv,rfl,hnv⟩:=(hc.row hv).sl (by rw[wordsE_len]; omega)
  have hvl:i < vs.length:=by rw[hc.len]; exact hss
  have hb:=hc.box
  unfold passD at hpk ⊢
  generalize (ls.getD i []).getD k ⟨0,0⟩=x at *
  generalize getS ss i k=w at *
  have hnext:=pc_Next15 g hW.gok x (has_in64 hf hxH)
  rw[nextB,if_pos (hasLrB_iff.2 ⟨hW.right,hxH⟩)] at hnext
  have hrest:=ofG_rest hW.right hxH
  cases hnx:nextLr g x with
  | mk sym okb =>
  have hsb:=nextLr_neg hf hxH hnx
  have hx64:=has_in64 hf hxH
  have hd6:=rightLr_len hf hxH.1
  have hdd:0≤x.dot∧x.dot≤6:=⟨hxH.2.1,by have:=hxH.2.2; omega⟩
  rw[hnx] at hnext hpk
  simp only[encG,encS,encLr] at hnext
  simp (disch:=omega) only [↓wr,↓reduceIte,wq,oneV,splice,Nat.reduceEqDiff,Nat.reduceAdd,Nat.reduceLT,Nat.reduceLeDiff,reduceCtorEq,S_gerundref16_work_pass,hb,encWk,hnl,hl,lsE_len,lrE,List.getElem?_map,hx,encLr,hnu,vs_get hv,hnv,gw_get hw]
  refine ⟨hi,hi,hss,hvl,by omega,by omega,?_⟩
  intro bx hbx
  rw[set_set]
  have hc1:=hc.newL hbx 2 [[gi x.rule,gi x.dot]]
  have hb1:=hc1.box
  have hx1:=hc1.inL (by simp)
  have hbb:¬ b=bx:=by rintro rfl; rw[hb] at hbx; simp at hbx
  simp (disch:=omega) only [↓wr,↓reduceIte,wq,Nat.reduceEqDiff,Nat.reduceAdd,Nat.reduceLT,Nat.reduceLeDiff,hbb]
  refine CallG.pure hnext (by kernel_rfl) ?_
  generalize H.set bx (.arr 2 [[gi x.rule,gi x.dot]])=H1 at hc1 hb1 hx1 ⊢
  clear hc hnl hnu hnv hb
  simp (disch:=omega) only [↓wr,↓reduceIte,wq,Nat.reduceEqDiff,Nat.reduceAdd,Nat.reduceLT]
  cases okb with
  | false =>
    simp (disch:=omega) only [↓wr,↓reduceIte,wq,Nat.reduceEqDiff,reduceCtorEq]
    simp
    exact hc1.drop
  | true =>
    simp (disch:=omega) only [↓wr,↓reduceIte,wq,intOp,Nat.reduceEqDiff]
    refine GoB.eq (fun hz=>?_) (fun hz=>?_)
    · have hz2:w=0:=toNat_zero.1 hz
      simp (disch:=omega) only [↓wr,wq,reduceCtorEq]
      rw[if_pos hz2]
      simp
      exact hc1.drop
    · have hz2:¬ w=0:=fun e=>hz (toNat_zero.2 e)
      rw[if_neg (fun h=>h.elim (by simp) hz2)] at hpk
      simp only at hpk
      have hwk:=pc_Walk15 a (by unfold Short; omega) hW.edg i [sym] (by unfold Short; simp)
      have hwin:=walkD_in hla hW.len1 i [sym]
      have hw0:0≤(walkD a i [sym]).1:=by
        unfold walkD
        split
        · simp
        · exact (walkS1_in (a:=a) _ _ (by omega) (by omega)).1
      simp (disch:=omega) only [↓wr,↓reduceIte,wq,fillE,Nat.reduceEqDiff,Nat.reduceAdd,Nat.reduceLT,reduceCtorEq,hb1,encWk]
      intro q hq
      refine CallG.lend hwk (by kernel_rfl) (.tup _ fun j hj=>by
        match j,hj with
        | 0,_=>exact ⟨_,rfl⟩
        | 1,_=>exact ⟨_,rfl⟩) ⟨.tree (encSts_tree a),.tree (.val _),lent_intsL (l:=[sym]) (by simp[View.set]) rfl,trivial⟩ ?_
      have hc2:=hc1.fresh (o:=.arr 1 [[gi sym]]) hq
      have hx2:=hc2.inL (by simp)
      generalize H1.set q (.arr 1 [[gi sym]])=H2 at hc2 hx2 ⊢
      clear hc1 hb1 hx1 hq
      generalize (walkD a i [sym]).1=to at *
      obtain ⟨ton,rfl⟩:∃ n:Nat,to=n:=⟨to.toNat,by omega⟩
      rw[Int.toNat_natCast] at *
      simp (disch:=omega) only [↓wr,↓reduceIte,wq,intOp,splice,sBuild,Nat.reduceEqDiff,Nat.reduceAdd,Nat.reduceLT,Nat.reduceLeDiff,reduceCtorEq,hx2]
      refine CallG.loud ((mc_give g a _ _ vs ls ss more _ b H2 hc2 hsh hsm ton hwin ⟨x.rule,x.dot+1⟩ w).mono ?_)
      intro _ H3 hc3
      have hsh1:=giveD_shp hsh hwin ⟨x.rule,x.dot+1⟩ w
      have hle1:=giveD_le hsh hwin ⟨x.rule,x.dot+1⟩ w
      generalize giveD ls ss ton ⟨x.rule,x.dot+1⟩ w=ss1 at *
      have hb3:=hc3.box
      have hx3:=hc3.inL (by simp)
      simp (disch:=omega) only [↓wr,↓reduceIte,wq,intOp,Nat.reduceEqDiff]
      refine GoB.dec (fun hs=>?_) (fun hs=>?_)
      · simp (disch:=omega) only [↓wr,wq,reduceCtorEq]
        rw[if_neg hz2,if_pos hs]
        exact hc3.drop
      · rw[if_neg hs] at hpk
        have hdl:=(nextLr_some hnx).1
        have hxe:=hxH.2
        have h64:∀ s∈restLr g x,In64 s:=by
          intro s hs
          unfold restLr at hs
          split at hs
          · have hR:g.rules[x.rule.toNat]?=some (ruleD g x.rule):=by unfold ruleD; exact getD_some (by have:=hxH.1; omega)
            exact (hW.gok.rule _ (List.mem_of_getElem? hR)).2.2.2 s (List.mem_of_mem_drop hs)
          · simp at hs
        have hsh12:(restLr g x).length≤6:=by
          unfold restLr
          split
          · rename_i h0
            rw[rightLr,if_neg (by omega)] at hd6
            simp; omega
          · simp
        have h2:=pc_Of12 g hW.gok (restLr g x) w (by unfold Short; omega) h64
        rw[hrest w] at h2
        simp only[encG,encS] at h2
        generalize hs2:ofD (grown09 g false) (firstD g (grown09 g false)) w (restLr g x)=s2 at *
        simp (disch:=omega) only [↓wr,↓reduceIte,wq,intOp,Nat.reduceEqDiff,Nat.reduceAdd,Nat.reduceLT,hx3]
        have key:∀ v12:V,Lent H3 v12 (encI (restLr g x))→Lents H3 [.agg [.fro (g.terms.map encT),.fro (g.nons.map fun s=>[gs s]),.fro (g.rules.map encR),gi g.start],v12,gw w] [.agg [.fro (g.terms.map encT),.fro (g.nons.map fun s=>[gs s]),.fro (g.rules.map encR),gi g.start],encI (restLr g x),gw w]:=fun v12 h =>
          ⟨.tree (tree_agg _ (encG_tree g)),h,.tree (.val _),trivial⟩
        refine GoB.dec (fun h0=>?_) (fun h0=>?_)
        have hR:g.rules[x.rule.toNat]?=some (ruleD g x.rule):=by unfold ruleD; exact getD_some (by have:=hxH.1; omega)
        have hrr:rightLr g x.rule=(ruleD g x.rule).right:=by rw[rightLr,if_neg (by omega)]
        rw[hrr] at hdl hxe
        have hsl:=slice_drop (l:=(ruleD g x.rule).right) (k:=(x.dot+1).toNat) (by omega)
        rw[show (((x.dot+1).toNat:Nat):Int)=x.dot+1 by omega] at hsl
        have hre:restLr g x=(ruleD g x.rule).right.drop (x.dot+1).toNat:=by rw[restLr,if_pos (by omega)]
        generalize ruleD g x.rule=R at hR hsl hre
        simp (disch:=omega) only [↓wr,↓reduceIte,wq,intOp,Nat.reduceEqDiff,Nat.reduceAdd,Nat.reduceLT,Nat.reduceLeDiff,reduceCtorEq,hx3,hb3,encWk,List.getElem?_map,hR,encR,encI,hsl]
        refine CallG.lend h2 (by kernel_rfl) (.val _) (key _ (by rw[hre]; exact .tree (encI_tree _))) ?_
        rotate_left
        have hre:restLr g x=[]:=by rw[restLr,if_neg (by omega)]
        simp (disch:=omega) only [↓wr,↓reduceIte,wq,Nat.reduceEqDiff,Nat.reduceAdd,Nat.reduceLT,Nat.reduceLeDiff,reduceCtorEq,hb3,encWk]
        refine CallG.lend h2 (by kernel_rfl) (.val _) (key _ (by rw[hre]; exact .nil)) ?_
        all_goals (
          simp (disch:=omega) only [↓wr,↓reduceIte,wq]
          refine LoopG.up g.rules.length (fun q T H'=>CoreW H' b g a (.sl nl 0 ls.length 1) (.sl nu 0 ss.length 1) vs ls (giveAll g ls i sym s2 ss1 q) (more || decide (giveAll g ls i sym s2 ss1 q≠ss)) ((.sl bx 0 1 2,2,[[gi x.rule,gi x.dot]]) :: L)∧T 0=.ptr b 0 0∧T 1=gi i∧T 7=gw s2∧T 8=gi sym∧T 13=gi q) ⟨hc3,rfl,rfl,rfl,rfl,rfl⟩ ?_
          rintro q k2 T4 H4 hk2 ⟨hc4,t0,t1,t7,t8,t13⟩
          have hb4:=hc4.box
          simp (disch:=omega) only [↓wr,↓reduceIte,wq,intOp,goI,Nat.reduceEqDiff,Nat.reduceAdd,Nat.reduceLT,Int.reduceNeg,reduceCtorEq,B_gerundref16_work_pass_0,t0,t13,hb4,encWk]
          refine GoB.dec (fun hcq=>?_) (fun hcq=>?_)
          · have hql:q < g.rules.length:=by omega
            have hR2:g.rules[q]?=some (ruleD g (q:Int)):=by unfold ruleD; rw[Int.toNat_natCast]; exact getD_some hql
            have hL:=hf.left _ (List.mem_of_getElem? hR2)
            obtain ⟨hq1,hq2⟩:=giveAll_ok (g:=g) hi sym s2 q ss1 hsh1
            have e1:giveAll g ls i sym s2 ss1 (q+1)=if (ruleD g (q:Int)).left = -1 - sym then giveD ls (giveAll g ls i sym s2 ss1 q) i ⟨q,0⟩ s2 else giveAll g ls i sym s2 ss1 q:=by
              unfold giveAll
              rw[List.range_succ,List.foldl_append]
              rfl
            generalize ruleD g (q:Int)=R at hR2 hL e1
            generalize giveAll g ls i sym s2 ss1 q=ssq at *
            simp (disch:=omega) only [↓wr,↓reduceIte,wq,intOp,Nat.reduceEqDiff,Nat.reduceAdd,Nat.reduceLT,Int.reduceNeg,reduceCtorEq,t0,t8,t13,hb4,encWk,List.getElem?_map,hR2,encR]
            refine GoB.eq (fun he=>?_) (fun he=>?_)
            · simp (disch:=omega) only [↓wr,↓reduceIte,wq,splice,sBuild,Nat.reduceEqDiff,Nat.reduceAdd,Nat.reduceLeDiff,Int.reduceNeg,reduceCtorEq,t0,t1,t7,t13]
              refine CallG.loud ((mc_give g a _ _ vs ls _ _ _ b H4 hc4 hq1 hsm i hi ⟨q,0⟩ s2).mono ?_)
              intro _ H5 hc5
              simp (disch:=omega) only [↓wr,↓reduceIte,wq,intOp,Nat.reduceEqDiff,Int.reduceNeg,reduceCtorEq,t13]
              rw[if_pos he] at e1
              rw[Bool.or_assoc,ne_trans (hle1.trans hq2) (giveD_le hq1 hi _ _),← e1] at hc5
              exact up_next hk2 hql ⟨hc5,t0,t1,t7,t8,rfl⟩
            · simp (disch:=omega) only [↓wr,↓reduceIte,wq,intOp,Nat.reduceEqDiff,Int.reduceNeg,reduceCtorEq,t13]
              rw[if_neg he] at e1
              exact up_next hk2 hql ⟨by rw[e1]; exact hc4,t0,t1,t7,t8,rfl⟩
          · simp (disch:=omega) only [↓wr,↓reduceIte,wq,reduceCtorEq]
            rw[if_neg hz2,if_neg hs]
            have hqe:q=g.rules.length:=by omega
            subst hqe
            exact hc4.drop)
section
variable {H:View} {b:Nat} {g:Gram} {a:List StP} {ul us:V} {vs:List V} {ls:List (List LrI)} {ss:Sets} {more:Bool} {L:List Ent}
theorem CoreW.goApp {u:V} {sz bytes:Nat} {es xs:List (List V)} {K:V→View→Prop} {w:Veil (H,K)} (hc:CoreW H b g a ul us vs ls ss more ((u,sz,es) :: L)) (hok:(xs.all fun e=>e.length == sz && e.all cellOk)=true)
    (hl:(es.length+xs.length) * bytes < limit) (hl2:es.length+xs.length < limit) (hk:∀ u' H',CoreW H' b g a ul us vs ls ss more ((u',sz,es ++ xs) :: L)→K u' H'):GoApp sz bytes u xs H K w :=
  goApp_owns (hc.own.perm perm_in) hok hl hl2 fun u' H' ho _=>hk u' H' ⟨hc.len,ho.perm perm_in.symm⟩
theorem CoreW.emp (h:CoreW H b g a ul us vs ls ss more L) (k sz:Nat):CoreW H b g a ul us vs ls ss more ((.emp k,sz,[]) :: L):=⟨h.len,(h.own.emp (k:=k) (sz:=sz)).perm perm_in.symm⟩
theorem CoreW.headL {u:V} {sz:Nat} {es:List (List V)} (h:CoreW H b g a ul us vs ls ss more ((u,sz,es) :: L)):OwnA H u sz es:=(h.own.perm perm_in).head
theorem CoreW.permL {L':List Ent} (h:CoreW H b g a ul us vs ls ss more L) (p:L.Perm L'):CoreW H b g a ul us vs ls ss more L':=⟨h.len,h.own.perm (((p.append_left _).cons _).cons _ |>.cons _)⟩
end
theorem sts_cells (a:List StP):V.cells (encSts a)=[encSts a]:=id rfl
theorem sts_ok (a:List StP):cellOk (encSts a)=true:=id rfl
def zeroS (ls:List (List LrI)):Sets:=ls.map fun l=>List.replicate l.length 0
theorem zeroS_shp (ls:List (List LrI)):Shp ls (zeroS ls):=by
  refine ⟨by simp[zeroS],fun i=>?_⟩
  simp only[zeroS,List.getD_eq_getElem?_getD,List.getElem?_map]
  cases ls[i]? <;> simp
theorem zeroS_get (ls:List (List LrI)) (i k:Nat):getS (zeroS ls) i k=0:=by
  simp only[getS,zeroS,List.getD_eq_getElem?_getD,List.getElem?_map]
  cases ls[i]? with
  | none=>simp
  | some l =>
    simp only[Option.map_some,Option.getD_some,List.getElem?_replicate]
    split <;> rfl
theorem zipW_app:∀ {vs:List V} {ss:Sets} (v:V) (r:List BV),vs.length=ss.length→zipW (vs ++ [v]) (ss ++ [r])=zipW vs ss ++ [(v,1,wordsE r)]
  | [],[],v,r,_=>rfl
  | [],_ :: _,_,_,h=>by simp at h
  | _ :: _,[],_,_,h=>by simp at h
  | x :: vs,s :: ss,v,r,h=>by
    simp only[List.cons_append,zipW,zipW_app v r (show vs.length=ss.length by simpa using h)]
theorem sets_are {g:Gram} {a:List StP} (hla:(closL g a).length=a.length) (h1:1≤a.length) {ss:Sets} (hs:Shp (closL g a) ss) (hd:SoundS g (grown09 g false) a (closL g a) ss) (h0:∀ k,((closL g a).getD 0 [])[k]?=some ⟨-1,0⟩→(getS ss 0 k).getLsbD g.terms.length=true)
    (hf:∀ i k,i < (closL g a).length→k < ((closL g a).getD i []).length→passD g (grown09 g false) a (closL g a) i k ss=ss) {i k:Nat} {x:LrI} (hx:((closL g a).getD i [])[k]?=some x):getS ss i k=setL g a i x:=by
  classical
  refine bv_ext fun t ht=>?_
  rw[Bool.eq_iff_iff]
  unfold setL
  rw[bvOf_bit _ 32 t (Nat.le_refl _)]
  simp only[decide_eq_true_eq]
  exact ⟨fun h=>⟨ht,hd i k x t hx h⟩,fun h=>sets_full hla h1 hs h0 hf h.2 k hx⟩
def encLk (p:PLook):List V:=[gi p.rule,gw p.set]
def lkE (l:List PLook):List (List V):=l.map encLk
def encLks (l:List (List PLook)):V:=.fro (l.map fun r=>[.fro (lkE r)])
theorem lk_tree (l:List PLook):Tree (.fro (lkE l)):=tree_fro _ _ fun x _ v hv=>by simp[encLk] at hv; rcases hv with rfl | rfl <;> exact .val _
abbrev LkR:=List (V × List PLook)
def lkO (B:LkR):List Ent:=B.map fun x=>(x.1,2,lkE x.2)
theorem lks_frn {h:Heap} {u:V} {B:LkR} (ho:OwnA h.view u 1 (rowsE B)) (hb:∀ x∈B,OwnA h.view x.1 2 (lkE x.2)):FrN h u (encLks (B.map (·.2))):=by
  have hg:∀ i (hi:i < B.length),(rowsE B).getD i []=[(B[i]).1]∧(((B.map (·.2)).map fun r=>[V.fro (lkE r)]).getD i [])=[.fro (lkE (B[i]).2)]:=fun i hi=>by
    simp[rowsE,List.getD_eq_getElem?_getD,hi]
  refine FrN.own ho (by simp[rowsE]) (fun i hi=>?_) (fun i j hi hj=>?_)
  · have hi':i < B.length:=by simpa [rowsE] using hi
    rw[(hg i hi').1,(hg i hi').2]; rfl
  · have hi':i < B.length:=by simpa [rowsE] using hi
    rw[(hg i hi').2] at hj ⊢
    rw[(hg i hi').1]
    have:j=0:=by simp at hj; omega
    subst this
    simp only[List.getD_cons_zero]
    have hx:=hb _ (List.getElem_mem hi')
    generalize (B[i]'hi').2=l at hx
    refine FrN.own hx rfl (fun i _=>rfl) (fun i j hi hj=>?_)
    simp only[lkE,List.length_map] at hi
    have e:(lkE l).getD i []=encLk l[i]:=by simp[lkE,List.getD_eq_getElem?_getD,hi]
    rw[e] at hj ⊢
    match j,hj with
    | 0,_=>exact .val _
    | 1,_=>exact .val _
def B_gerundref16_Of_0:SC :=
  .seq (.seq (ab [aa 29 7,aa 30 4,aj 31 30,ak 32 .lss 29 31]) <|
  .cond (.tmp 32) (.skip) (.exit 0)) <|
  .seq (.block 1 (.seq (ab [au 35 4 1,aa 36 4,aa 37 7,av 38 2 36 37,af 39 0 38,ae 40 39,ao 41 31 [35,40],aa 8 41]) <|
  .seq (ab [aa 42 6,aa 43 6,ax 44 43,af 45 5 44,ae 46 45,aa 47 8,((some 48),.op (.bslice 1 1 [(.emp 1)] [(0,(.tmp 47))])),((some 49),.op (.app 1 24 (.tmp 46) (.tmp 48))),ax 50 42,af 51 5 50,(none,.op (.store 1 (.tmp 51) (.tmp 49)))]) <|
  ab [aa 52 6,aa 53 6,ax 54 53,af 55 6 54,ae 56 55,aa 57 8,aj 58 57,((some 59),.op (.make 1 4 [(.val (.int .u32 0))] (.tmp 58) (.tmp 58))),((some 60),.op (.bslice 1 1 [(.emp 1)] [(0,(.tmp 59))])),((some 61),.op (.app 1 24 (.tmp 56) (.tmp 60))),ax 62 52,af 63 6 62,(none,.op (.store 1 (.tmp 63) (.tmp 61)))])) <|
  ab [aa 33 7,ah 34 .add 33 1,aa 7 34]
def B_gerundref16_Of_1:SC :=
  .seq (.seq (ab [aa 84 10,aa 85 6,ax 86 85,af 87 5 86,ae 88 87,aa 89 9,av 90 1 88 89,ae 91 90,aj 92 91,ak 93 .lss 84 92]) <|
  .cond (.tmp 93) (.skip) (.exit 6)) <|
  .seq (.block 7 (ab [aa 96 6,aa 97 9,aa 98 10,ao 99 96 [96,97,98]])) <|
  ab [aa 94 10,ah 95 .add 94 1,aa 10 95]
def B_gerundref16_Of_2:SC :=
  .seq (.seq (ab [aa 78 9,aa 79 4,aj 80 79,ak 81 .lss 78 80]) <|
  .cond (.tmp 81) (.skip) (.exit 4)) <|
  .seq (.block 5 (.seq (ab [ai 10 0]) <|
  .block 6 (.loop B_gerundref16_Of_1))) <|
  ab [aa 82 9,ah 83 .add 82 1,aa 9 83]
def B_gerundref16_Of_3:SC :=
  .seq (.seq (ab [aa 71 6,ax 72 71,af 73 7 72,ae 74 73]) <|
  .cond (.tmp 74) (.skip) (.exit 2)) <|
  .block 3 (.seq (ab [aa 75 6,ax 76 75,af 77 7 76,(none,.op (.store 1 (.tmp 77) (.val (.val (.bool false)))))]) <|
  .seq (ab [ai 9 0]) <|
  .block 4 (.loop B_gerundref16_Of_2))
def B_gerundref16_Of_4:SC :=
  .seq (.seq (ab [aa 106 14,aa 107 6,ax 108 107,af 109 5 108,ae 110 109,aa 111 12,av 112 1 110 111,ae 113 112,aj 114 113,ak 115 .lss 106 114]) <|
  .cond (.tmp 115) (.skip) (.exit 10)) <|
  .seq (.block 11 (.seq (ab [au 119 4 1,aa 120 6,ax 121 120,af 122 5 121,ae 123 122,aa 124 12,av 125 1 123 124,ae 126 125,aa 127 14,av 128 2 126 127,au 129 2 128,ao 130 26 [119,129],aa 118 130,aA 131 0 118,aA 132 1 118,aa 15 131,aa 16 132]) <|
  .seq (.region false [⟨none,[aa 133 16,aB 134 133,aa 135 134]⟩,⟨(some (135,true)),[aa 136 6,ax 137 136,af 138 5 137,ae 139 138,aa 140 12,av 141 1 139 140,ae 142 141,aa 143 14,av 144 2 142 143,af 145 0 144,ae 146 145,ah 147 .geq 146 0]⟩,⟨none,[az 148 135 147]⟩]) <|
  .cond (.tmp 148) (ab [aa 149 13,aa 150 6,ax 151 150,af 152 5 151,ae 153 152,aa 154 12,av 155 1 153 154,ae 156 155,aa 157 14,av 158 2 156 157,af 159 0 158,ae 160 159,aa 161 6,ax 162 161,af 163 6 162,ae 164 163,aa 165 12,av 166 1 164 165,ae 167 166,aa 168 14,av 169 1 167 168,ae 170 169,((some 171),.op (.build [(.val (.int .i64 0)),(.val (.int .u32 0))] [(0,1,(.tmp 160)),(1,1,(.tmp 170))])),((some 172),.op (.bslice 1 2 [(.val (.int .i64 0)),(.val (.int .u32 0))] [(0,(.tmp 171))])),((some 173),.op (.app 2 16 (.tmp 149) (.tmp 172))),aa 13 173]) (.skip))) <|
  ab [aa 116 14,ah 117 .add 116 1,aa 14 117]
def B_gerundref16_Of_5:SC :=
  .seq (.seq (ab [aa 100 12,aa 101 4,aj 102 101,ak 103 .lss 100 102]) <|
  .cond (.tmp 103) (.skip) (.exit 8)) <|
  .seq (.block 9 (.seq (ab [((some 13),.op (.mov (.val (.emp 1))))]) <|
  .seq (.seq (ab [ai 14 0]) <|
  .block 10 (.loop B_gerundref16_Of_4)) <|
  ab [aa 174 11,aa 175 13,((some 176),.op (.bslice 1 1 [(.emp 1)] [(0,(.tmp 175))])),((some 177),.op (.app 1 24 (.tmp 174) (.tmp 176))),aa 11 177])) <|
  ab [aa 104 12,ah 105 .add 104 1,aa 12 105]
def S_gerundref16_Of:SF:=⟨.seq (ab [aC 1 0,((some 2),.op (.mov (.val (.emp 1)))),ai 3 0]) <|
  .seq (ab [au 18 4 1,ao 19 33 [18],aa 17 19,aA 20 0 17,aA 21 1 17,aa 4 20,aa 5 21]) <|
  .seq (.seq (ab [aa 22 5,ah 23 .neq 22 0]) <|
  .cond (.tmp 23) (.seq (ab [aa 24 5,((some 2),.op (.mov (.val (.emp 1)))),aa 3 24]) <|
  .ret) (.skip)) <|
  .seq (ab [au 25 4 1,aa 26 4,((some 27),.op (.build [(.emp 1),(.emp 1),(.emp 1),(.val (.int .i64 0)),(.emp 1),(.emp 1),(.emp 1),(.val (.bool false))] [(0,4,(.tmp 25)),(4,1,(.tmp 26))])),((some 28),.op (.box (.tmp 27))),aa 6 28]) <|
  .seq (.seq (ab [ai 7 0]) <|
  .block 0 (.loop B_gerundref16_Of_0)) <|
  .seq (ab [aa 64 6,((some 65),.op (.build [(.val (.int .i64 0)),(.val (.int .i64 0))] [(0,1,(.val (.val (.int .i64 (-1)))))])),af 66 0 1,ae 67 66,aj 68 67,ao 69 95 [68],aD 70 94 [(.tmp 64),(.val (.val (.int .i64 0))),(.tmp 65),(.tmp 69)]]) <|
  .seq (.block 2 (.loop B_gerundref16_Of_3)) <|
  .seq (ab [((some 11),.op (.mov (.val (.emp 1))))]) <|
  .seq (.seq (ab [ai 12 0]) <|
  .block 8 (.loop B_gerundref16_Of_5)) <|
  .seq (ab [aa 178 11,aa 2 178,ai 3 0]) <|
  .ret,
  [.tmp 2,.tmp 3],179⟩
theorem S_gerundref16_Of_ok:compF Tryz.prog 50 [1]=some S_gerundref16_Of:=by kernel_rfl
theorem closL_get {g:Gram} {a:List StP} {i:Nat} {s:StP} (h:a[i]?=some s):(closL g a)[i]?=some (closD g s.ker):=by rw[closL,List.getElem?_map,h]; rfl
theorem autoD_work {g:Gram} (hg:g.Ok) (h:(autoD g).2=0):WorkOk g (autoD g).1 (closL g (autoD g).1)∧AutOk g (autoD g).1:=by
  have hr:isRed g=true:=Classical.byContradiction fun hn=>by
    unfold autoD at h; rw[if_neg hn] at h; simp at h
  have hf:=isRed_fine hr
  obtain ⟨hA,h1,h2⟩:=autoD_ok hf h
  refine ⟨⟨hg,isRed_right hr,by simp[closL],h1,h2,fun s hs=>⟨by unfold Short; have:=hA.edg s hs; omega,fun e he=>?_⟩,fun l hl=>?_⟩,hA⟩
  · have h3:=hA.to s hs e he
    have h4:=hA.sym s hs e he
    unfold In64; omega
  · obtain ⟨s,hs,rfl⟩:=List.mem_map.1 hl
    have hk:=(hA.ker s hs).2.2
    exact ⟨by have:=closD_len hf hk; omega,fun x hx=>((mem_closD hf hk).1 hx).has hk⟩
def OfI (g:Gram) (a:List StP) (b:Nat) (ul us:V) (vs:List V) (m:Nat) (T:Env) (H:View):Prop:=∃ (ss:Sets) (more:Bool),m=(maxS (closL g a) - sumS ss)+(if more then 1 else 0)∧CoreW H b g a ul us vs (closL g a) ss more []∧Shp (closL g a) ss∧SoundS g (grown09 g false) a (closL g a) ss ∧
  (∀ k,((closL g a).getD 0 [])[k]?=some ⟨-1,0⟩→(getS ss 0 k).getLsbD g.terms.length=true)∧(more=false→∀ i k,i < (closL g a).length→k < ((closL g a).getD i []).length→passD g (grown09 g false) a (closL g a) i k ss=ss) ∧
  T 1=.fptr (encG g) 0∧T 4=encSts a∧T 6=.ptr b 0 0
set_option maxHeartbeats 16000000 in
theorem pn_Of16 (g:Gram) (hg:g.Ok):PNew Tryz.prog 50 [.agg (encG g)] (.tup [encLks (lookD g).1,gi (lookD g).2]):=by
  refine PNew.of (gg_tree g) ?_
  have hB:=(pn_Build15 g hg).pure
  refine MCall.of mixed S_gerundref16_Of_ok ?_
  simp only[encG,encS] at hB
  simp (disch:=omega) only [↓wr,↓reduceIte,wq,oneV,Nat.reduceEqDiff,Nat.reduceAdd,Nat.reduceLeDiff,Int.reduceNeg,S_gerundref16_Of,encG,encS]
  refine CallG.pure hB (by kernel_rfl) ?_
  unfold lookD
  simp (disch:=omega) only [↓wr,↓reduceIte,wq,intOp,Nat.reduceEqDiff,Nat.reduceAdd,Nat.reduceLT,Int.reduceNeg]
  refine GoB.ne (fun h=>?_) (fun h=>?_)
  · simp (disch:=omega) only [↓wr,↓reduceIte,wq,Nat.reduceEqDiff,Int.reduceNeg,reduceCtorEq]
    intro h' _
    rw[if_neg h]
    exact frn_sts (.emp _)
  rw[if_pos h]
  obtain ⟨hW,hA⟩:=autoD_work hg h
  generalize (autoD g).1=a at *
  clear hB h
  have hf:=right09_fine hW.right
  have h300:=hW.short
  have hT:=hf.terms
  simp (disch:=omega) only [↓wr,↓reduceIte,wq,splice,sBuild,Nat.reduceEqDiff,Nat.reduceAdd,Nat.reduceLeDiff,Int.reduceNeg,sts_cells,sts_ok]
  intro b
  have c0:CoreW (View.set (fun _=>AObj.dead) b (.arr 8 [encWk g a (.emp 1) (.emp 1) false])) b g a (.emp 1) (.emp 1) [] ((closL g a).take 0) (zeroS ((closL g a).take 0)) false [] :=
    ⟨rfl,(((Owns.nil.new (n:=b) (H:=fun _=>AObj.dead) rfl 8 [encWk g a (.emp 1) (.emp 1) false]).emp (k:=1) (sz:=1)).emp (k:=1) (sz:=1)).perm rot3.symm⟩
  simp only[encWk] at c0
  generalize (View.set (fun _=>AObj.dead) b (.arr 8 [[V.fro (g.terms.map encT),.fro (g.nons.map fun s=>[gs s]),.fro (g.rules.map encR),gi g.start,encSts a,.emp 1,.emp 1,gb false]]))=H0 at c0 ⊢
  refine LoopG.up a.length (fun i T H'=>∃ (ul us:V) (vs:List V),CoreW H' b g a ul us vs ((closL g a).take i) (zeroS ((closL g a).take i)) false []∧T 1=.fptr (encG g) 0∧T 4=encSts a∧T 6=.ptr b 0 0∧T 7=gi i) ⟨_,_,_,c0,rfl,rfl,rfl,rfl⟩ ?_
  clear c0
  rintro i k T H hk ⟨ul,us,vs,hc,t1,t4,t6,t7⟩
  simp (disch:=omega) only [↓wr,↓reduceIte,wq,intOp,goI,splice,sBuild,Nat.reduceEqDiff,Nat.reduceAdd,Nat.reduceLeDiff,Int.reduceNeg,B_gerundref16_Of_0,t4,t7,encSts]
  refine GoB.dec (fun hci=>?_) (fun hci=>?_)
  · have hs:a[i]?=some (a[i]'(by omega)):=List.getElem?_eq_getElem (by omega)
    have hcl:=closL_get (g:=g) hs
    obtain ⟨k1,k2,k3⟩:=hA.ker _ (List.getElem_mem (show i < a.length by omega))
    generalize a[i]'(by omega)=s at hs hcl k1 k2 k3
    have hkl:=sort_len hf k1 k3
    have hC:=(pn_Closure15 g hg s.ker (by omega) (fun x hx=>has_in64 hf (k3 x hx))).pure
    rw[List.filter_eq_self.2 fun x hx=>hasLrB_iff.2 ⟨hW.right,k3 x hx⟩] at hC
    have hcd:=closD_len hf k3
    have hne:closD g s.ker≠[]:=fun e=>by
      cases hk:s.ker with
      | nil=>exact k2 hk
      | cons x r =>
        have:=(mem_closD hf k3).2 (.base (show x∈s.ker by rw[hk]; simp))
        rw[e] at this; simp at this
    generalize closD g s.ker=cl at *
    have htk:(closL g a).take (i+1)=(closL g a).take i ++ [cl]:=by rw[List.take_add_one,hcl]; rfl
    have hlt:((closL g a).take i).length≤300:=by rw[List.length_take]; have:=hW.len; omega
    simp only[encG,encS] at hC
    simp (disch:=omega) only [↓wr,↓reduceIte,wq,Nat.reduceEqDiff,Nat.reduceAdd,Nat.reduceLT,Nat.reduceLeDiff,Int.reduceNeg,t1,t4,t7,encG,encS,encSts,List.getElem?_map,hs,encSt]
    refine CallG.pure hC (by kernel_rfl) ?_
    have hb:=hc.box
    simp (disch:=omega) only [↓wr,↓reduceIte,wq,fillE,Nat.reduceEqDiff,Nat.reduceAdd,Nat.reduceLT,Int.reduceNeg,t6,hb,encWk]
    intro q hq
    simp (disch:=omega) only [↓wr,↓reduceIte,wq,Nat.reduceEqDiff,Int.reduceNeg,elemsOf_new]
    have o1:=(hc.own.fresh (o:=.arr 1 [[.fro (lrE cl)]]) hq).at 1 (by simp)
    refine goApp_owns o1 (by simp[cellOk]) (by unfold limit; simp only[lsE_len]; simp; omega) (by unfold limit; simp only[lsE_len]; simp; omega) ?_
    intro ul2 H2 o2 _
    simp only[List.eraseIdx_cons_succ,List.eraseIdx_cons_zero] at o2
    have hb2:=o2.is 1 rfl (by simp)
    have o3:=(o2.perm (.swap _ _ _)).put (es':=[encWk g a ul2 us false]) rfl rfl
    have cu:=o2.head.cells
    have ku:=o2.head.cok
    simp only[encWk] at o3 hb2
    clear o1 o2 hq hb
    simp (disch:=omega) only [↓wr,↓reduceIte,wq,goI,splice,fillE,Nat.reduceEqDiff,Nat.reduceAdd,Nat.reduceLT,Nat.reduceLeDiff,Int.reduceNeg,t6,hb2,cu,ku,lrE_len]
    have hcl0:cl.length≠0:=fun e=>hne (List.length_eq_zero_iff.1 e)
    refine ⟨⟨Nat.le_refl _,by unfold limit; omega,by unfold limit; omega⟩,fun hz=>absurd hz hcl0,fun _ nm hnm=>?_⟩
    have o4:=o3.new (n:=nm) (by simpa [View.set] using hnm) 1 (List.replicate cl.length [.val (.int .u32 0)])
    rw[List.length_replicate] at o4
    intro q2 hq2
    simp (disch:=omega) only [↓wr,↓reduceIte,wq,Nat.reduceEqDiff,Int.reduceNeg,elemsOf_new]
    have o5:=(o4.fresh (n:=q2) (o:=.arr 1 [[.sl nm 0 cl.length 1]]) (by simpa [View.set] using hq2)).at 3 (by simp)
    refine goApp_owns o5 (by simp[cellOk]) (by unfold limit; simp only[List.length_map]; simp; have:=hc.len; simp[zeroS] at this; omega) (by unfold limit; simp only[List.length_map]; simp; have:=hc.len; simp[zeroS] at this; omega) ?_
    intro us2 H5 o6 _
    simp only[List.eraseIdx_cons_succ,List.eraseIdx_cons_zero] at o6
    have hb6:=o6.is 2 rfl (by simp)
    have cu2:=o6.head.cells
    have ku2:=o6.head.cok
    simp (disch:=omega) only [↓wr,↓reduceIte,wq,intOp,goI,splice,Nat.reduceEqDiff,Nat.reduceAdd,Nat.reduceLT,Nat.reduceLeDiff,Int.reduceNeg,reduceCtorEq,t1,t7,hb6,cu2,ku2]
    have o7:=(o6.at 2 (by simp)).put (es':=[encWk g a ul2 us2 false]) rfl rfl
    simp only[List.eraseIdx_cons_succ,List.eraseIdx_cons_zero] at o7
    refine up_next hk (by omega) ⟨ul2,us2,vs ++ [.sl nm 0 cl.length 1],⟨?_,?_⟩,t1,t4,t6,rfl⟩
    · have:=hc.len
      rw[htk]; simp[zeroS] at this ⊢; exact this
    · have e1:lsE ((closL g a).take i ++ [cl])=lsE ((closL g a).take i) ++ [[.fro (lrE cl)]]:=by simp[lsE]
      have e2:zeroS ((closL g a).take i ++ [cl])=zeroS ((closL g a).take i) ++ [List.replicate cl.length 0]:=by simp[zeroS]
      have e3:(List.replicate cl.length [V.val (.int .u32 0)])=wordsE (List.replicate cl.length (0:BV)):=by simp
      rw[htk,e1,e2,zipW_app _ _ hc.len,List.map_append,List.append_nil]
      rw[e3,List.append_nil] at o7
      exact o7.perm (.cons _ ((List.perm_middle (l₁:=[_,_])).trans (.cons _ (.cons _ (List.perm_append_singleton _ _).symm))))
  rw[List.take_of_length_le (by have:=hW.len; omega)] at hc
  have hfx:=fun m=>hW.item m
  simp (disch:=omega) only [↓wr,↓reduceIte,wq,goI,Nat.reduceEqDiff,Nat.reduceAdd,Nat.reduceLT,Int.reduceNeg,reduceCtorEq,t1,t6,encG]
  refine CallG.pure (pc_Bit03 (g.terms.length:Int)) (by kernel_rfl) ?_
  simp (disch:=omega) only [↓wr,↓reduceIte,wq,Nat.reduceEqDiff,Int.reduceNeg,t6]
  have hzs:=zeroS_shp (closL g a)
  have hl0:0 < (closL g a).length:=by have:=hW.len; have:=hW.len1; omega
  refine CallG.loud ((mc_give g a ul us vs (closL g a) (zeroS (closL g a)) false [] b H hc hzs (fun l hl=>(hW.item l hl).1) 0 hl0 ⟨-1,0⟩ (bitD g.terms.length)).mono ?_)
  intro _ H1 hc1
  have hbit:∀ t,(bitD (g.terms.length:Int)).getLsbD t=true↔t=g.terms.length:=fun t=>by
    rw[bitD,if_pos (by omega),BitVec.getLsbD_twoPow]
    simp only[Int.toNat_natCast,Bool.and_eq_true,decide_eq_true_eq]
    omega
  have hs1:=giveD_shp hzs hl0 ⟨-1,0⟩ (bitD g.terms.length)
  have hd1:SoundS g (grown09 g false) a (closL g a) (giveD (closL g a) (zeroS (closL g a)) 0 ⟨-1,0⟩ (bitD g.terms.length)):=by
    refine giveD_sound hzs (fun i k x t _ h=>by rw[zeroS_get] at h; simp at h) hl0 fun t ht hm=>?_
    rw[(hbit t).1 ht]
    exact .start hm
  have h01:∀ k,((closL g a).getD 0 [])[k]?=some ⟨-1,0⟩→(getS (giveD (closL g a) (zeroS (closL g a)) 0 ⟨-1,0⟩ (bitD g.terms.length)) 0 k).getLsbD g.terms.length=true:=fun k hk=>by
    rw[giveD_get hzs hl0,if_pos ⟨rfl,hk⟩,BitVec.getLsbD_or,(hbit _).2 rfl,Bool.or_true]
  have hf1:(false || decide (giveD (closL g a) (zeroS (closL g a)) 0 ⟨-1,0⟩ (bitD g.terms.length)≠zeroS (closL g a)))=false→∀ i k,i < (closL g a).length→k < ((closL g a).getD i []).length→passD g (grown09 g false) a (closL g a) i k (giveD (closL g a) (zeroS (closL g a)) 0 ⟨-1,0⟩ (bitD g.terms.length))=giveD (closL g a) (zeroS (closL g a)) 0 ⟨-1,0⟩ (bitD g.terms.length):=fun h i k _ _=>by
    simp only[Bool.false_or,decide_eq_false_iff_not,Classical.not_not] at h
    rw[h,passD,if_pos (.inr (zeroS_get _ _ _))]
  generalize giveD (closL g a) (zeroS (closL g a)) 0 ⟨-1,0⟩ (bitD g.terms.length)=ss1 at *
  generalize (false || decide (ss1≠zeroS (closL g a)))=more1 at *
  simp (disch:=omega) only [↓wr,wq,Int.reduceNeg]
  refine LoopG.intro (OfI g a b ul us vs) _ ⟨ss1,more1,rfl,hc1,hs1,hd1,h01,hf1,t1,t4,t6⟩ ?_
  clear hc hc1 hs1 hd1 h01 hf1 t1 t4 t6 t7 hzs hci hk
  rintro m T2 H2 ⟨ss0,more0,rfl,hc,hsh,hd,h0,hfix,t1,t4,t6⟩
  have hb:=hc.box
  have hla:=hW.len
  have h1l:=hW.len1
  obtain ⟨nl,rfl,_⟩:=hc.lists (by omega)
  simp (disch:=omega) only [↓wr,↓reduceIte,wq,Nat.reduceAdd,Nat.reduceLT,B_gerundref16_Of_3,t6,hb,encWk]
  refine GoB.split (fun hm=>?_) (fun hm=>?_)
  · have hc1:=hc.flag false
    simp only[encWk] at hc1
    simp (disch:=omega) only [↓wr,↓reduceIte,wq,splice,Nat.reduceEqDiff,Nat.reduceAdd,Nat.reduceLT,Nat.reduceLeDiff,t6,hb,encWk]
    refine LoopG.up a.length (fun i T H'=>∃ ss:Sets,CoreW H' b g a (.sl nl 0 (closL g a).length 1) us vs (closL g a) ss (decide (ss≠ss0)) []∧Shp (closL g a) ss∧SoundS g (grown09 g false) a (closL g a) ss∧LeS ss0 ss ∧
      (ss=ss0→∀ i' k,i' < i→k < ((closL g a).getD i' []).length→passD g (grown09 g false) a (closL g a) i' k ss0=ss0)∧T 1=.fptr (encG g) 0∧T 4=encSts a∧T 6=.ptr b 0 0∧T 9=gi i)
      ⟨ss0,by rw[decide_eq_false (by simp)]; exact hc1,hsh,hd,.refl,fun _ i' k h=>by omega,t1,t4,t6,rfl⟩ ?_
    clear hc1 t1 t4 t6 hb
    rintro i k2 T3 H3 hk2 ⟨ss,hc3,hs3,hd3,hle3,hf3,t1,t4,t6,t9⟩
    simp (disch:=omega) only [↓wr,↓reduceIte,wq,intOp,goI,Nat.reduceEqDiff,B_gerundref16_Of_2,t4,t9,encSts]
    refine GoB.dec (fun hci=>?_) (fun hci=>?_)
    · have hil:i < (closL g a).length:=by omega
      have h10:=(hW.item _ (List.mem_of_getElem? (getD_some (d:=[]) hil))).1
      simp (disch:=omega) only [↓wr,wq]
      refine LoopG.up ((closL g a).getD i []).length (fun k T H'=>∃ ss:Sets,CoreW H' b g a (.sl nl 0 (closL g a).length 1) us vs (closL g a) ss (decide (ss≠ss0)) []∧Shp (closL g a) ss∧SoundS g (grown09 g false) a (closL g a) ss∧LeS ss0 ss ∧
        (ss=ss0→(∀ i' k,i' < i→k < ((closL g a).getD i' []).length→passD g (grown09 g false) a (closL g a) i' k ss0=ss0)∧∀ k',k' < k→passD g (grown09 g false) a (closL g a) i k' ss0=ss0)∧T 1=.fptr (encG g) 0∧T 4=encSts a∧T 6=.ptr b 0 0∧T 9=gi i∧T 10=gi k)
        ⟨ss,hc3,hs3,hd3,hle3,fun e=>⟨hf3 e,fun k' h=>by omega⟩,t1,t4,t6,t9,rfl⟩ ?_
      clear hc3 hs3 hd3 hle3 hf3 t1 t4 t6 t9
      rintro k k3 T4 H4 hk3 ⟨ss,hc4,hs4,hd4,hle4,hf4,t1,t4,t6,t9,t10⟩
      have hb4:=hc4.box
      have hnl:=(hc4.listsAt (by omega)).1
      have hlg:=ls_get hil
      simp (disch:=omega) only [↓wr,↓reduceIte,wq,intOp,goI,Nat.reduceEqDiff,Nat.reduceAdd,Nat.reduceLT,B_gerundref16_Of_1,t6,t9,t10,hb4,encWk,hnl,hlg,lsE_len,lrE_len]
      refine ⟨hil,hil,?_⟩
      refine GoB.dec (fun hck=>?_) (fun hck=>?_)
      · have hkl:k < ((closL g a).getD i []).length:=by omega
        simp (disch:=omega) only [↓wr,↓reduceIte,wq,Nat.reduceEqDiff,t6,t9,t10]
        refine CallG.loud ((mc_pass g a _ us vs (closL g a) ss _ [] b H4 hW hc4 hs4 i k hil hkl).mono ?_)
        intro _ H5 hc5
        obtain ⟨p1,p2⟩:=passD_ok (g:=g) (null:=grown09 g false) hla h1l hil k hs4
        have p3:=passD_sound hla h1l hil hkl hs4 hd4
        rw[ne_trans hle4 p2] at hc5
        simp (disch:=omega) only [↓wr,↓reduceIte,wq,intOp,Nat.reduceEqDiff,reduceCtorEq,t9,t10]
        refine up_next hk3 hkl ⟨_,hc5,p1,p3,hle4.trans p2,fun e=>?_,t1,t4,t6,t9,rfl⟩
        have e1:ss=ss0:=LeS.anti (Eq.mp (congrArg (LeS ss) e) p2) hle4
        subst e1
        refine ⟨(hf4 rfl).1,fun k' hk'=>?_⟩
        rcases Nat.lt_or_ge k' k with hlt | hge
        · exact (hf4 rfl).2 k' hlt
        · have:k'=k:=by omega
          subst this
          exact e
      · simp (disch:=omega) only [↓wr,↓reduceIte,wq,Nat.reduceEqDiff,reduceCtorEq,t9]
        refine up_next hk2 (by omega) ⟨ss,hc4,hs4,hd4,hle4,fun e i' k' hi' hk'=>?_,t1,t4,t6,rfl⟩
        rcases Nat.lt_or_ge i' i with hlt | hge
        · exact (hf4 e).1 i' k' hlt hk'
        · have:i'=i:=by omega
          subst this
          exact (hf4 e).2 k' (by omega)
    · simp (disch:=omega) only [↓wr,↓reduceIte,wq,Nat.reduceEqDiff,reduceCtorEq]
      have q1:=sumS_le hle3
      have q2:=sumS_max hs3
      refine ⟨_,?_,ss,decide (ss≠ss0),rfl,hc3,hs3,hd3,fun k hk=>hle3.2.2 0 k _ (h0 k hk),fun e=>?_,t1,t4,t6⟩
      · rw[hm]
        by_cases e:ss=ss0
        · subst e; simp
        · have:=q1.2 (fun h=>e h.symm)
          simp[e]; omega
      · have e2:ss=ss0:=by simpa using e
        have h3:=hf3 e2
        rw[e2]
        exact fun i k hi hk=>h3 i k (by omega) hk
  · have hfixed:=hfix hm
    subst hm
    have hset:=fun i k x=>sets_are (i:=i) (k:=k) (x:=x) hla h1l hsh hd h0 hfixed
    obtain ⟨nu,rfl,_⟩:=hc.sets (by rw[hsh.1]; omega)
    simp (disch:=omega) only [↓wr,↓reduceIte,wq,Nat.reduceEqDiff,reduceCtorEq]
    refine LoopG.up a.length (fun i T H'=>∃ (uo:V) (B:LkR),B.map (·.2)=(lookL g a).take i∧CoreW H' b g a (.sl nl 0 (closL g a).length 1) (.sl nu 0 ss0.length 1) vs (closL g a) ss0 false ((uo,1,rowsE B) :: lkO B)∧T 1=.fptr (encG g) 0∧T 4=encSts a∧T 6=.ptr b 0 0∧T 11=uo∧T 12=gi i)
      ⟨.emp 1,[],by simp,hc.emp 1 1,t1,t4,t6,rfl,rfl⟩ ?_
    clear hc t1 t4 t6 hb
    rintro i k2 T3 H3 hk2 ⟨uo,B,hB,hc3,t1,t4,t6,t11,t12⟩
    simp (disch:=omega) only [↓wr,↓reduceIte,wq,intOp,goI,Nat.reduceEqDiff,reduceCtorEq,B_gerundref16_Of_5,t4,t12,encSts]
    refine GoB.dec (fun hci=>?_) (fun hci=>?_)
    · have hil:i < (closL g a).length:=by omega
      have h10:=(hW.item _ (List.mem_of_getElem? (getD_some (d:=[]) hil))).1
      simp (disch:=omega) only [↓wr,wq]
      refine LoopG.up ((closL g a).getD i []).length (fun k T H'=>∃ u1:V,CoreW H' b g a (.sl nl 0 (closL g a).length 1) (.sl nu 0 ss0.length 1) vs (closL g a) ss0 false ((u1,2,lkE ((((closL g a).getD i []).take k).filterMap fun x=>if (nextLr g x).2=false∧0≤x.rule then some ⟨x.rule,setL g a i x⟩ else none)) :: (uo,1,rowsE B) :: lkO B) ∧
        T 1=.fptr (encG g) 0∧T 4=encSts a∧T 6=.ptr b 0 0∧T 11=uo∧T 12=gi i∧T 13=u1∧T 14=gi k)
        ⟨.emp 1,hc3.emp 1 2,t1,t4,t6,t11,t12,rfl,rfl⟩ ?_
      clear hc3 t1 t4 t6 t11 t12
      rintro k k3 T4 H4 hk3 ⟨u1,hc4,t1,t4,t6,t11,t12,t13,t14⟩
      have hb4:=hc4.box
      have hnl:=(hc4.listsAt (by omega)).1
      have hlg:=ls_get hil
      simp (disch:=omega) only [↓wr,↓reduceIte,wq,intOp,goI,fillE,Nat.reduceEqDiff,Nat.reduceAdd,Nat.reduceLT,B_gerundref16_Of_4,t6,t12,t14,hb4,encWk,hnl,hlg,lsE_len,lrE_len]
      refine ⟨hil,hil,?_⟩
      refine GoB.dec (fun hck=>?_) (fun hck=>?_)
      · have hkl:k < ((closL g a).getD i []).length:=by omega
        have hx:((closL g a).getD i [])[k]?=some (((closL g a).getD i [])[k]'hkl):=List.getElem?_eq_getElem hkl
        have hxH:=(hW.item _ (List.mem_of_getElem? (getD_some (d:=[]) hil))).2 _ (List.getElem_mem hkl)
        have htk:((closL g a).getD i []).take (k+1)=((closL g a).getD i []).take k ++ [((closL g a).getD i [])[k]'hkl]:=by rw[List.take_add_one,hx]; rfl
        generalize ((closL g a).getD i [])[k]'hkl=x at hx hxH htk
        have hN:=pc_Next15 g hW.gok x (has_in64 hf hxH)
        rw[nextB,if_pos (hasLrB_iff.2 ⟨hW.right,hxH⟩)] at hN
        have hsx:=hset i k x hx
        have hvs:vs[i]?=some (vs[i]'(by rw[hc4.len,hsh.1]; exact hil)):=List.getElem?_eq_getElem _
        generalize vs[i]'(by rw[hc4.len,hsh.1]; exact hil)=v at hvs
        have hrl:=hsh.2 i
        have hvl:i < vs.length:=by rw[hc4.len,hsh.1]; exact hil
        have hss:i < ss0.length:=by rw[hsh.1]; exact hil
        obtain ⟨nv,rfl,hnv⟩:=(hc4.row hvs).sl (by rw[wordsE_len]; omega)
        have hw:(ss0.getD i [])[k]?=some (getS ss0 i k):=getD_some (by omega)
        have hnu:=(hc4.setsAt (by omega)).1
        have hpl:=List.length_filterMap_le (fun x:LrI=>if (nextLr g x).2=false∧0≤x.rule then some (⟨x.rule,setL g a i x⟩:PLook) else none) (((closL g a).getD i []).take k)
        rw[List.length_take] at hpl
        rw[hsx] at hw
        simp only[encG,encS,encLr] at hN
        simp (disch:=omega) only [↓wr,↓reduceIte,wq,Nat.reduceEqDiff,Nat.reduceAdd,Nat.reduceLT,Nat.reduceLeDiff,t1,t6,t12,t14,hb4,encWk,hnl,hlg,lsE_len,lrE,List.getElem?_map,hx,encLr,encG,encS]
        refine ⟨hil,hil,?_⟩
        refine CallG.pure hN (by kernel_rfl) ?_
        have skip:¬ ((nextLr g x).2=false∧0≤x.rule)→(((closL g a).getD i []).take (k+1)).filterMap (fun x=>if (nextLr g x).2=false∧0≤x.rule then some (⟨x.rule,setL g a i x⟩:PLook) else none)=(((closL g a).getD i []).take k).filterMap (fun x=>if (nextLr g x).2=false∧0≤x.rule then some (⟨x.rule,setL g a i x⟩:PLook) else none):=fun hno=>by
          rw[htk,List.filterMap_append]
          simp[hno]
        have take:((nextLr g x).2=false∧0≤x.rule)→(((closL g a).getD i []).take (k+1)).filterMap (fun x=>if (nextLr g x).2=false∧0≤x.rule then some (⟨x.rule,setL g a i x⟩:PLook) else none)=(((closL g a).getD i []).take k).filterMap (fun x=>if (nextLr g x).2=false∧0≤x.rule then some (⟨x.rule,setL g a i x⟩:PLook) else none) ++ [⟨x.rule,setL g a i x⟩]:=fun hyes=>by
          rw[htk,List.filterMap_append]
          simp[hyes]
        simp (disch:=omega) only [↓wr,↓reduceIte,wq,Nat.reduceEqDiff,Nat.reduceAdd,Nat.reduceLT]
        refine GoB.split (fun hok=>?_) (fun hok=>?_)
        · simp (disch:=omega) only [↓wr,↓reduceIte,wq,intOp,Nat.reduceEqDiff,reduceCtorEq,t11,t12,t13,t14]
          exact up_next hk3 hkl ⟨u1,by rw[skip (by simp[hok])]; exact hc4,t1,t4,t6,t11,t12,t13,rfl⟩
        · simp (disch:=omega) only [↓wr,↓reduceIte,wq,intOp,Nat.reduceEqDiff,Nat.reduceAdd,Nat.reduceLT,t6,t12,t14,hb4,encWk,hnl,hlg,lsE_len,lrE,List.getElem?_map,hx,encLr]
          refine ⟨hil,hil,?_⟩
          refine GoB.dec (fun h0=>?_) (fun h0=>?_)
          · simp (disch:=omega) only [↓wr,↓reduceIte,wq,splice,sBuild,fillE,Nat.reduceEqDiff,Nat.reduceAdd,Nat.reduceLT,Nat.reduceLeDiff,t6,t12,t13,t14,hb4,encWk,hnl,hlg,lsE_len,lrE,List.getElem?_map,hx,encLr,hnu,vs_get hvs,hnv,gw_get hw]
            refine ⟨hil,hil,hss,hvl,by omega,by omega,?_⟩
            intro q hq
            simp (disch:=omega) only [↓wr,↓reduceIte,wq,Nat.reduceEqDiff,elemsOf_new]
            refine CoreW.goApp (hc4.fresh hq) (by simp[cellOk]) (by unfold limit; rw[lkE,List.length_map]; simp only[List.length_cons,List.length_nil]; omega) (by unfold limit; rw[lkE,List.length_map]; simp only[List.length_cons,List.length_nil]; omega) ?_
            intro u2 H5 hc5
            simp (disch:=omega) only [↓wr,↓reduceIte,wq,intOp,Nat.reduceEqDiff,reduceCtorEq,t11,t12,t14]
            exact up_next hk3 hkl ⟨u2,by rw[take ⟨hok,h0⟩,lkE,List.map_append]; exact hc5,t1,t4,t6,t11,t12,rfl,rfl⟩
          · simp (disch:=omega) only [↓wr,↓reduceIte,wq,intOp,Nat.reduceEqDiff,reduceCtorEq,t11,t12,t13,t14]
            exact up_next hk3 hkl ⟨u1,by rw[skip (by omega)]; exact hc4,t1,t4,t6,t11,t12,t13,rfl⟩
      · simp (disch:=omega) only [↓wr,↓reduceIte,wq,Nat.reduceEqDiff,reduceCtorEq,t11,t12,t13]
        have hBl:=congrArg List.length hB
        simp only[List.length_map,List.length_take] at hBl
        have c13:=hc4.headL.cells
        have k13:=hc4.headL.cok
        rw[List.take_of_length_le (by omega)] at hc4
        have hll:(lookL g a)[i]?=some (lookR g a i):=by rw[lookL,List.getElem?_map,List.getElem?_range (by omega)]; rfl
        simp (disch:=omega) only [↓wr,↓reduceIte,wq,c13,k13]
        intro q hq
        simp (disch:=omega) only [↓wr,↓reduceIte,wq,Nat.reduceEqDiff,elemsOf_new,t11]
        refine CoreW.goApp ((hc4.permL (.swap _ _ _)).fresh hq) (by simp[k13]) (by unfold limit; simp[rowsE]; omega) (by unfold limit; simp[rowsE]; omega) ?_
        intro uo2 H5 hc5
        simp (disch:=omega) only [↓wr,↓reduceIte,wq,intOp,Nat.reduceEqDiff,reduceCtorEq,t11,t12]
        refine up_next hk2 (by omega) ⟨uo2,B ++ [(u1,lookR g a i)],?_,?_,t1,t4,t6,rfl,rfl⟩
        · rw[List.map_append,hB,List.take_add_one,hll]; rfl
        · have e1:rowsE (B ++ [(u1,lookR g a i)])=rowsE B ++ [[u1]]:=by simp[rowsE]
          have e2:lkO (B ++ [(u1,lookR g a i)])=lkO B ++ [(u1,2,lkE (lookR g a i))]:=by simp[lkO]
          rw[e1,e2]
          exact hc5.permL (.cons _ (List.perm_append_singleton _ _).symm)
    · simp (disch:=omega) only [↓wr,↓reduceIte,wq,Nat.reduceEqDiff,reduceCtorEq,t11]
      rw[List.take_of_length_le (by simp[lookL]; omega)] at hB
      rintro h' rfl
      rw[← hB]
      have ho:=(hc3.own.perm perm_in)
      refine frn_sts (lks_frn ho.head fun x hx=>ho.1 (x.1,2,lkE x.2) (List.mem_cons_of_mem _ (List.mem_cons_of_mem _ (List.mem_cons_of_mem _ (List.mem_cons_of_mem _ (List.mem_append_right _ (List.mem_map.2 ⟨x,hx,rfl⟩)))))))
end Gv
