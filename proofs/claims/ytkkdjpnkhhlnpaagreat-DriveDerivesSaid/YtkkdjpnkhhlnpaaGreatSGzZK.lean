/-
  Part 11 of the proof: what the machine does and what the functions answer.
  Conditions: those that each lemma names.
-/
import Derived.Test.YtkkdjpnkhhlnpaaGreatSGzZJ
set_option linter.unusedSimpArgs false
set_option linter.unusedVariables false
set_option maxRecDepth 100000
namespace Gv
open Go Go.Proofs
def terB (g:Gram) (w:List Int):Bool:=w.all fun x=>decide (0≤x) && decide (x < g.terms.length)
def wordB (g:Gram) (w:List Int):Bool:=right09 g && decide (w.length≤60) && terB g w
theorem two_args (g:Gram) (w:List Int):∀ v∈[V.agg (encG g),encI w],Tree v:=by
  intro v hv; simp at hv
  rcases hv with rfl | rfl
  · exact tree_agg _ (encG_tree g)
  · exact encI_tree w
def S_drive_Word_1:SF:=⟨.seq (ab [aw 3 false]) <|
  .seq (.region false [⟨none,[aa 4 0,ah 5 .lss 4 0,aa 6 5]⟩,⟨(some (6,false)),[aa 7 0,af 8 0 1,ae 9 8,aj 10 9,ak 11 .geq 7 10]⟩,⟨none,[ay 12 6 11,aa 3 12]⟩]) <|
  .ret,
  [.tmp 3],13⟩
theorem S_drive_Word_1_ok:compF Tryz.prog 100 []=some S_drive_Word_1:=by kernel_rfl
def S_drive_Word:SF:=⟨.seq (ab [aC 2 0,aw 4 false]) <|
  .seq (.seq (.region false [⟨none,[au 5 4 2,ao 6 64 [5],aB 7 6,aa 8 7]⟩,⟨(some (8,false)),[aa 9 1,aj 10 9,ah 11 .gtr 10 60]⟩,⟨none,[ay 12 8 11]⟩]) <|
  .cond (.tmp 12) (.seq (ab [aw 4 false]) <|
  .ret) (.skip)) <|
  .seq (ab [aa 13 1,((some 14),.op (.mkfn 100 [] [(.tmp 2)])),ao 15 90 [13,14],aB 16 15,aa 4 16]) <|
  .ret,
  [.tmp 4],17⟩
theorem S_drive_Word_ok:compF Tryz.prog 53 [2]=some S_drive_Word:=by kernel_rfl
theorem pc_dWord1 (g:Gram) (hg:g.Ok) (x:Int) (hx:In64 x):PCall Tryz.prog 100 [gi x,.fptr (encG g) 0] (gb (!(decide (0≤x) && decide (x < g.terms.length)))):=by
  have hgt:=hg.terms
  unfold Short at hgt
  refine PCall.val (by
    intro v hv; simp at hv
    rcases hv with rfl | rfl
    · exact .val _
    · exact fptr_tree (encG_tree g)) fun H=>?_
  refine MCall.of mixed S_drive_Word_1_ok ?_
  simp (disch:=omega) only [↓wr,↓reduceIte,wq,oneV,intOp,Nat.reduceAdd,Nat.reduceLeDiff,reduceCtorEq,S_drive_Word_1,encG,encS]
  refine GoB.dec (fun h1=>?_) (fun h1=>?_)
  · simp (disch:=omega) only [↓wr,↓reduceIte,wq,Nat.reduceEqDiff,reduceCtorEq]
    rw[decide_eq_false (show ¬ 0≤x by omega)]; rfl
  · simp (disch:=omega) only [↓wr,↓reduceIte,wq,intOp,goI,Nat.reduceEqDiff,Nat.reduceAdd,Nat.reduceLT,reduceCtorEq]
    rw[decide_eq_true (show 0≤x by omega)]
    rw[Bool.true_and,← decide_not]; congr 2; exact decide_eq_decide.2 ⟨fun h=>Int.not_lt.2 h,fun h=>Int.not_lt.1 h⟩
set_option maxHeartbeats 2000000 in
theorem pc_dWord (g:Gram) (hg:g.Ok) (hs:g.Small) (w:List Int) (hw:Short w) (hn:∀ x∈w,In64 x):PCall Tryz.prog 53 [.agg (encG g),encI w] (gb (wordB g w)):=by
  refine PCall.val (two_args g w) fun H=>?_
  have hcf:=pc_ContainsFuncI w hw 100 [.fptr (encG g) 0] (by intro v hv; simp at hv; subst hv; exact fptr_tree (encG_tree g)) (fun x=>!(decide (0≤x) && decide (x < g.terms.length))) (fun x hx=>pc_dWord1 g hg x (hn x hx)) (by kernel_rfl)
  refine MCall.of mixed S_drive_Word_ok ?_
  unfold Short at hw
  simp (disch:=omega) only [↓wr,↓reduceIte,wq,oneV,Nat.reduceEqDiff,Nat.reduceAdd,Nat.reduceLeDiff,S_drive_Word,encG,encS]
  refine CallG.pure (pc_cRight g hg hs.names) (by kernel_rfl) ?_
  simp only[encG,encS] at hcf
  simp (disch:=omega) only [↓wr,↓reduceIte,wq]
  refine GoB.split (fun hr=>?_) (fun hr=>?_)
  · simp (disch:=omega) only [↓wr,↓reduceIte,wq,intOp,goI,Nat.reduceEqDiff,encI]
    refine GoB.dec (fun h6=>?_) (fun h6=>?_)
    · simp (disch:=omega) only [↓wr,↓reduceIte,wq,reduceCtorEq]
      rw[wordB,decide_eq_false (show ¬ w.length≤60 by omega)]; simp
    · simp (disch:=omega) only [↓wr,↓reduceIte,wq,Nat.reduceEqDiff]
      refine CallG.pure hcf (by kernel_rfl) ?_
      simp (disch:=omega) only [↓wr,↓reduceIte,wq,reduceCtorEq]
      rw[wordB,hr,decide_eq_true (show w.length≤60 by omega),← List.not_all_eq_any_not,Bool.not_not]; rfl
  · simp (disch:=omega) only [↓wr,↓reduceIte,wq,Nat.reduceEqDiff,reduceCtorEq]
    rw[wordB,hr]; rfl
def encCell (c:Cell):List V:=[gi c.kind,gi c.n]
abbrev encRow (l:List Cell):V:=.fro (l.map encCell)
def encTab (t:Tab):List V:=[.fro (t.actions.map fun r=>[encRow r]),.fro (t.gotos.map fun r=>[encI r])]
theorem encCell_tree (c:Cell):∀ v∈encCell c,Tree v:=by
  intro v hv; simp[encCell] at hv; rcases hv with rfl | rfl <;> exact .val _
theorem encRow_tree (l:List Cell):Tree (encRow l):=tree_fro _ _ fun c _ v hv=>encCell_tree c v hv
theorem encTab_tree (t:Tab):∀ v∈encTab t,Tree v:=by
  intro v hv
  simp only[encTab,List.mem_cons,List.not_mem_nil,or_false] at hv
  rcases hv with rfl | rfl
  · exact tree_fro _ _ fun r _ v hv=>by simp at hv; subst hv; exact encRow_tree r
  · exact tree_fro _ _ fun r _ v hv=>by simp at hv; subst hv; exact encI_tree r
structure Tab.Ok (t:Tab):Prop where
  actions:Short t.actions
  gotos:Short t.gotos
  row:∀ r∈t.actions,Short r∧∀ c∈r,In64 c.kind∧In64 c.n
  go:∀ r∈t.gotos,Short r∧∀ x∈r,In64 x
def S_table_fits:SF:=⟨.seq (ab [aC 3 0,aw 6 false]) <|
  .seq (ab [ai 7 1]) <|
  .seq (.seq (ab [af 8 0 3,ae 9 8]) <|
  .block 0 (.seq (.seq (ab [ah 11 .eql 9 0,aa 10 11]) <|
  .cond (.tmp 10) (.skip) (ab [ah 12 .eql 9 3,aa 10 12])) <|
  .cond (.tmp 10) (.skip) (.seq (ab [ah 14 .eql 9 1,aa 13 14]) <|
  .cond (.tmp 13) (ab [aa 15 1,aa 7 15]) (.seq (ab [ah 17 .eql 9 2,aa 16 17]) <|
  .cond (.tmp 16) (ab [aa 18 2,aa 7 18]) (.seq (ab [aw 6 false]) <|
  .ret))))) <|
  .seq (.region false [⟨none,[af 19 1 3,ae 20 19,ah 21 .geq 20 0,aa 22 21]⟩,⟨(some (22,true)),[af 23 1 3,ae 24 23,aa 25 7,ak 26 .lss 24 25]⟩,⟨none,[az 27 22 26,aa 6 27]⟩]) <|
  .ret,
  [.tmp 6],28⟩
theorem S_table_fits_ok:compF Tryz.prog 89 [3]=some S_table_fits:=by kernel_rfl
def S_table_Right_1:SF:=⟨.seq (ab [aC 3 0,aw 4 false]) <|
  .seq (ab [au 5 2 3,ae 6 1,af 7 2 2,ae 8 7,aj 9 8,ao 10 89 [5,6,9],aB 11 10,aa 4 11]) <|
  .ret,
  [.tmp 4],12⟩
theorem S_table_Right_1_ok:compF Tryz.prog 88 [3]=some S_table_Right_1:=by kernel_rfl
def S_table_Right_2:SF:=⟨.seq (ab [aw 3 false]) <|
  .seq (.region false [⟨none,[aa 4 0,ah 5 .lss 4 (-1),aa 6 5]⟩,⟨(some (6,false)),[aa 7 0,ae 8 1,ak 9 .geq 7 8]⟩,⟨none,[ay 10 6 9,aa 3 10]⟩]) <|
  .ret,
  [.tmp 3],11⟩
theorem S_table_Right_2_ok:compF Tryz.prog 91 []=some S_table_Right_2:=by kernel_rfl
def B_table_Right_0:SC :=
  .seq (ab [ak 33 .lss 32 31]) <|
  .seq (.cond (.tmp 33) (.skip) (.exit 0)) <|
  .seq (.block 1 (.seq (ab [aa 34 32,av 35 1 30 32,ae 36 35,aa 6 34,aa 7 36]) <|
  .seq (.seq (.region false [⟨none,[aa 37 7,aj 38 37,af 39 0 2,ae 40 39,aj 41 40,ah 42 .add 41 1,ak 43 .neq 38 42,aa 44 43]⟩,⟨(some (44,false)),[af 45 1 3,ae 46 45,aa 47 6,av 48 1 46 47,ae 49 48,aj 50 49,af 51 1 2,ae 52 51,aj 53 52,ak 54 .neq 50 53]⟩,⟨none,[ay 55 44 54]⟩]) <|
  .cond (.tmp 55) (.seq (ab [aw 4 false]) <|
  .ret) (.skip)) <|
  .seq (.seq (ab [aa 56 7,((some 57),.op (.mkfn 88 [] [(.tmp 5),(.tmp 2)])),ao 58 87 [56,57]]) <|
  .cond (.tmp 58) (.seq (ab [aw 4 false]) <|
  .ret) (.skip)) <|
  .seq (ab [af 59 1 3,ae 60 59,aa 61 6,av 62 1 60 61,ae 63 62,((some 64),.op (.mkfn 91 [] [(.tmp 5)])),ao 65 90 [63,64]]) <|
  .cond (.tmp 65) (.seq (ab [aw 4 false]) <|
  .ret) (.skip))) <|
  ab [ah 66 .add 32 1,aa 32 66]
def S_table_Right:SF:=⟨.seq (ab [aC 2 0,aC 3 1,aw 4 false]) <|
  .seq (ab [af 8 0 3,ae 9 8,aj 10 9,((some 5),.op (.alloc [(.val (.int .i64 0))])),(none,.op (.store 1 (.tmp 5) (.tmp 10)))]) <|
  .seq (.seq (.region false [⟨none,[au 11 4 2,ao 12 64 [11],aB 13 12,aa 14 13]⟩,⟨(some (14,false)),[ae 15 5,ah 16 .lss 15 1]⟩,⟨none,[ay 17 14 16,aa 18 17]⟩,⟨(some (18,false)),[ae 19 5,ah 20 .gtr 19 300]⟩,⟨none,[ay 21 18 20,aa 22 21]⟩,⟨(some (22,false)),[af 23 1 3,ae 24 23,aj 25 24,ae 26 5,ak 27 .neq 25 26]⟩,⟨none,[ay 28 22 27]⟩]) <|
  .cond (.tmp 28) (.seq (ab [aw 4 false]) <|
  .ret) (.skip)) <|
  .seq (.seq (ab [af 29 0 3,ae 30 29,aj 31 30,ai 32 0]) <|
  .block 0 (.loop B_table_Right_0)) <|
  .seq (ab [aw 4 true]) <|
  .ret,
  [.tmp 4],67⟩
theorem S_table_Right_ok:compF Tryz.prog 46 [2,3]=some S_table_Right:=by kernel_rfl
theorem pc_tfits (c:Cell) (a b:Int):PCall Tryz.prog 89 [.agg (encCell c),gi a,gi b] (gb (if c.kind=0∨c.kind=3 then decide (c.n=0) else if c.kind=1 then decide (0≤c.n) && decide (c.n < a) else if c.kind=2 then decide (0≤c.n) && decide (c.n < b) else false)):=by
  refine PCall.val (by
    intro v hv; simp at hv
    rcases hv with rfl | rfl | rfl
    · exact tree_agg _ (encCell_tree c)
    · exact .val _
    · exact .val _) fun H=>?_
  refine MCall.of mixed S_table_fits_ok ?_
  simp (disch:=omega) only [↓wr,↓reduceIte,wq,oneV,intOp,Nat.reduceEqDiff,Nat.reduceAdd,Nat.reduceLT,Nat.reduceLeDiff,S_table_fits,encCell]
  repeat' (first | (refine GoB.dec (fun _=>?_) (fun _=>?_)) | (refine GoB.eq (fun _=>?_) (fun _=>?_)) | (refine GoB.ne (fun _=>?_) (fun _=>?_)) | (refine GoB.split (fun _=>?_) (fun _=>?_)) | (simp (disch:=omega) only [↓wr,↓reduceIte,wq,intOp,Nat.reduceEqDiff,Nat.reduceAdd,Nat.reduceLT,reduceCtorEq]))
  all_goals simp_all
  all_goals omega
theorem rightT_row {g:Gram} {t:Tab} {i:Nat} (hi:i < t.actions.length) (h:rowC g t.actions.length (t.actions.getD i []) (t.gotos.getD i [])=false):rightT g t=false:=by
  rw[Bool.eq_false_iff]
  intro hr
  have:=(rightT_fine hr).row i hi
  rw[h] at this; simp at this
theorem gt_args (g:Gram) (t:Tab):∀ v∈[V.agg (encG g),.agg (encTab t)],Tree v:=by
  intro v hv; simp at hv
  rcases hv with rfl | rfl
  · exact tree_agg _ (encG_tree g)
  · exact tree_agg _ (encTab_tree t)
def B_slices_IndexFunc___api_Cell_api_Cell__0:SC :=
  .seq (ab [ak 9 .lss 8 7]) <|
  .seq (.cond (.tmp 9) (.skip) (.exit 0)) <|
  .seq (.block 1 (.seq (ab [aa 10 8,aa 5 10]) <|
  .seq (ab [aa 11 1,aa 12 0,aa 13 5,av 14 2 12 13,au 15 2 14,((some 16),.call (.tmp 11) [(.tmp 15)])]) <|
  .cond (.tmp 16) (.seq (ab [aa 17 5,aa 4 17]) <|
  .ret) (.skip))) <|
  ab [ah 18 .add 8 1,aa 8 18]
def S_slices_IndexFunc___api_Cell_api_Cell_:SF:=⟨.seq (ab [ai 4 0]) <|
  .seq (.seq (ab [aa 6 0,aj 7 6,ai 8 0]) <|
  .block 0 (.loop B_slices_IndexFunc___api_Cell_api_Cell__0)) <|
  .seq (ab [ai 4 (-1)]) <|
  .ret,
  [.tmp 4],19⟩
theorem S_slices_IndexFunc___api_Cell_api_Cell__ok:compF Tryz.prog 136 []=some S_slices_IndexFunc___api_Cell_api_Cell_:=by kernel_rfl
def S_slices_ContainsFunc___api_Cell_api_Cell_:SF:=⟨.seq (ab [aw 4 false]) <|
  .seq (ab [aa 5 0,aa 6 1,ao 7 136 [5,6],ah 8 .geq 7 0,aa 4 8]) <|
  .ret,
  [.tmp 4],9⟩
theorem S_slices_ContainsFunc___api_Cell_api_Cell__ok:compF Tryz.prog 87 []=some S_slices_ContainsFunc___api_Cell_api_Cell_:=by kernel_rfl
set_option maxHeartbeats 2000000 in
theorem mc_IndexHCell (l:List Cell) (hl:Short l) (f:FuncId) (cap:List V) (p:Cell→Bool) (H:View) (hf:∀ x∈l,MCall Tryz.prog f (.agg (encCell x) :: cap) H fun r H'=>r=gb (p x)∧H'=H) :
    MCall Tryz.prog 136 [.fro (l.map fun x=>encCell x),.fn f [] cap] H fun r H'=>r=gi (idxF p l 0)∧H'=H:=by
  refine MCall.of mixed S_slices_IndexFunc___api_Cell_api_Cell__ok ?_
  unfold Short at hl
  simp (disch:=omega) only [↓wr,↓reduceIte,wq,oneV,goI,Nat.reduceAdd,Nat.reduceLeDiff,Int.reduceNeg,reduceCtorEq,S_slices_IndexFunc___api_Cell_api_Cell_]
  refine LoopG.up l.length (fun i T H'=>H=H'∧idxF p (l.drop i) i=idxF p l 0∧T 0=.fro (l.map fun x=>encCell x)∧T 1=.fn f [] cap∧T 7=gi l.length∧T 8=gi i) ⟨rfl,rfl,rfl,rfl,rfl,rfl⟩ ?_
  rintro i k T _ hk ⟨rfl,hi,h0,h1,h7,h8⟩
  simp (disch:=omega) only [↓wr,↓reduceIte,wq,intOp,Int.reduceNeg,reduceCtorEq,B_slices_IndexFunc___api_Cell_api_Cell__0,h7,h8]
  refine GoB.dec (fun hc=>?_) (fun hc=>?_)
  · have hg:l[i]?=some (l[i]'(by omega)):=List.getElem?_eq_getElem (by omega)
    have hm:l[i]'(by omega)∈l:=List.getElem_mem _
    rw[drop_at (show i < l.length by omega)] at hi
    generalize l[i]'(by omega)=x at hg hm hi
    simp (disch:=omega) only [↓wr,↓reduceIte,wq,Nat.reduceEqDiff,Nat.reduceAdd,Nat.reduceLeDiff,Int.reduceNeg,reduceCtorEq,h0,h1,h8,List.getElem?_map,hg,encCell]
    have hcall:=hf x hm
    simp only[encCell] at hcall
    refine CallG.loud (hcall.mono ?_)
    rintro r H2 ⟨rfl,rfl⟩
    simp only[idxF] at hi
    simp (disch:=omega) only [↓wr,↓reduceIte,wq,Int.reduceNeg]
    refine GoB.split (fun hp=>?_) (fun hp=>?_)
    · simp (disch:=omega) only [↓wr,↓reduceIte,wq,intOp,Nat.reduceEqDiff,Int.reduceNeg,reduceCtorEq,h8]
      rw[← hi,if_pos hp]
    · simp (disch:=omega) only [↓wr,↓reduceIte,wq,intOp,Nat.reduceEqDiff,Int.reduceNeg,reduceCtorEq,h8]
      refine up_next hk (by omega) ⟨rfl,?_,h0,h1,h7,rfl⟩
      rw[if_neg (by simp[hp])] at hi
      push_cast; exact hi
  · rw[List.drop_eq_nil_of_le (by omega)] at hi
    simp (disch:=omega) only [↓wr,↓reduceIte,wq,Nat.reduceEqDiff,Int.reduceNeg,reduceCtorEq]
    rw[← hi]; rfl
theorem mc_ContainsHCell (l:List Cell) (hl:Short l) (f:FuncId) (cap:List V) (p:Cell→Bool) (H:View) (hf:∀ x∈l,MCall Tryz.prog f (.agg (encCell x) :: cap) H fun r H'=>r=gb (p x)∧H'=H) :
    MCall Tryz.prog 87 [.fro (l.map fun x=>encCell x),.fn f [] cap] H fun r H'=>r=gb (l.any p)∧H'=H:=by
  refine MCall.of mixed S_slices_ContainsFunc___api_Cell_api_Cell__ok ?_
  simp (disch:=omega) only [↓wr,↓reduceIte,wq,oneV,Nat.reduceEqDiff,Nat.reduceAdd,Nat.reduceLeDiff,reduceCtorEq,S_slices_ContainsFunc___api_Cell_api_Cell_]
  refine CallG.loud ((mc_IndexHCell l hl f cap p H hf).mono ?_)
  rintro r H2 ⟨rfl,rfl⟩
  simp (disch:=omega) only [↓wr,↓reduceIte,wq,intOp,reduceCtorEq]
  rw[← idxF_any _ l 0 (by omega)]
def cellI (x:Int):List V:=[gi x]
set_option maxHeartbeats 2000000 in
theorem mc_IndexHInt (l:List Int) (hl:Short l) (f:FuncId) (cap:List V) (p:Int→Bool) (H:View) (hf:∀ x∈l,MCall Tryz.prog f (gi x :: cap) H fun r H'=>r=gb (p x)∧H'=H) :
    MCall Tryz.prog 137 [.fro (l.map fun x=>cellI x),.fn f [] cap] H fun r H'=>r=gi (idxF p l 0)∧H'=H:=by
  refine MCall.of mixed S_slices_IndexFunc___int_int__ok ?_
  unfold Short at hl
  simp (disch:=omega) only [↓wr,↓reduceIte,wq,oneV,goI,Nat.reduceAdd,Nat.reduceLeDiff,Int.reduceNeg,reduceCtorEq,S_slices_IndexFunc___int_int_]
  refine LoopG.up l.length (fun i T H'=>H=H'∧idxF p (l.drop i) i=idxF p l 0∧T 0=.fro (l.map fun x=>cellI x)∧T 1=.fn f [] cap∧T 7=gi l.length∧T 8=gi i) ⟨rfl,rfl,rfl,rfl,rfl,rfl⟩ ?_
  rintro i k T _ hk ⟨rfl,hi,h0,h1,h7,h8⟩
  simp (disch:=omega) only [↓wr,↓reduceIte,wq,intOp,Int.reduceNeg,reduceCtorEq,B_slices_IndexFunc___int_int__0,h7,h8]
  refine GoB.dec (fun hc=>?_) (fun hc=>?_)
  · have hg:l[i]?=some (l[i]'(by omega)):=List.getElem?_eq_getElem (by omega)
    have hm:l[i]'(by omega)∈l:=List.getElem_mem _
    rw[drop_at (show i < l.length by omega)] at hi
    generalize l[i]'(by omega)=x at hg hm hi
    simp (disch:=omega) only [↓wr,↓reduceIte,wq,Nat.reduceEqDiff,Nat.reduceLT,Int.reduceNeg,reduceCtorEq,h0,h1,h8,List.getElem?_map,hg,cellI]
    have hcall:=hf x hm
    refine CallG.loud (hcall.mono ?_)
    rintro r H2 ⟨rfl,rfl⟩
    simp only[idxF] at hi
    simp (disch:=omega) only [↓wr,↓reduceIte,wq,Int.reduceNeg]
    refine GoB.split (fun hp=>?_) (fun hp=>?_)
    · simp (disch:=omega) only [↓wr,↓reduceIte,wq,intOp,Nat.reduceEqDiff,Int.reduceNeg,reduceCtorEq,h8]
      rw[← hi,if_pos hp]
    · simp (disch:=omega) only [↓wr,↓reduceIte,wq,intOp,Nat.reduceEqDiff,Int.reduceNeg,reduceCtorEq,h8]
      refine up_next hk (by omega) ⟨rfl,?_,h0,h1,h7,rfl⟩
      rw[if_neg (by simp[hp])] at hi
      push_cast; exact hi
  · rw[List.drop_eq_nil_of_le (by omega)] at hi
    simp (disch:=omega) only [↓wr,↓reduceIte,wq,Nat.reduceEqDiff,Int.reduceNeg,reduceCtorEq]
    rw[← hi]; rfl
theorem mc_ContainsHInt (l:List Int) (hl:Short l) (f:FuncId) (cap:List V) (p:Int→Bool) (H:View) (hf:∀ x∈l,MCall Tryz.prog f (gi x :: cap) H fun r H'=>r=gb (p x)∧H'=H) :
    MCall Tryz.prog 90 [.fro (l.map fun x=>cellI x),.fn f [] cap] H fun r H'=>r=gb (l.any p)∧H'=H:=by
  refine MCall.of mixed S_slices_ContainsFunc___int_int__ok ?_
  simp (disch:=omega) only [↓wr,↓reduceIte,wq,oneV,Nat.reduceEqDiff,Nat.reduceAdd,Nat.reduceLeDiff,reduceCtorEq,S_slices_ContainsFunc___int_int_]
  refine CallG.loud ((mc_IndexHInt l hl f cap p H hf).mono ?_)
  rintro r H2 ⟨rfl,rfl⟩
  simp (disch:=omega) only [↓wr,↓reduceIte,wq,intOp,reduceCtorEq]
  rw[← idxF_any _ l 0 (by omega)]
theorem mc_tR1 (g:Gram) (b n:Nat) (c:Cell) (H:View) (hb:H b=.arr 1 [[gi n]]):MCall Tryz.prog 88 [.agg (encCell c),.ptr b 0 0,.fptr (encG g) 0] H fun r H'=>r=gb (!fitsC g n c)∧H'=H:=by
  refine MCall.of mixed S_table_Right_1_ok ?_
  have hcall:=pc_tfits c n g.rules.length
  simp only[encCell] at hcall
  simp (disch:=omega) only [↓wr,↓reduceIte,wq,oneV,goI,Nat.reduceEqDiff,Nat.reduceAdd,Nat.reduceLT,Nat.reduceLeDiff,S_table_Right_1,encCell,encG,encS,hb]
  refine CallG.pure hcall (by kernel_rfl) ?_
  simp (disch:=omega) only [↓wr,↓reduceIte,wq,reduceCtorEq]
  rfl
theorem mc_tR2 (b n:Nat) (x:Int) (H:View) (hb:H b=.arr 1 [[gi n]]):MCall Tryz.prog 91 [gi x,.ptr b 0 0] H fun r H'=>r=gb (!(decide (-1≤x) && decide (x < n)))∧H'=H:=by
  refine MCall.of mixed S_table_Right_2_ok ?_
  simp (disch:=omega) only [↓wr,↓reduceIte,wq,oneV,intOp,Nat.reduceAdd,Nat.reduceLeDiff,Int.reduceNeg,reduceCtorEq,S_table_Right_2]
  repeat' (first | (refine GoB.dec (fun _=>?_) (fun _=>?_)) | (refine GoB.eq (fun _=>?_) (fun _=>?_)) | (refine GoB.ne (fun _=>?_) (fun _=>?_)) | (refine GoB.split (fun _=>?_) (fun _=>?_)) | (simp (disch:=omega) only [↓wr,↓reduceIte,wq,intOp,Nat.reduceEqDiff,Nat.reduceLT,Int.reduceNeg,reduceCtorEq,hb]))
  · rename_i hx
    rw[decide_eq_false (show ¬ -1≤x by omega)]; rfl
  · rename_i hx
    rw[decide_eq_true (show -1≤x by omega),Bool.true_and,← decide_not]
    rw[decide_eq_decide.2 (show (x≥(n:Int))↔¬ x < n by omega)]
set_option maxHeartbeats 8000000 in
theorem pc_tRight (g:Gram) (hg:g.Ok) (hsm:g.Small) (t:Tab) (ht:t.Ok):PCall Tryz.prog 46 [.agg (encG g),.agg (encTab t)] (gb (rightT g t)):=by
  refine PCall.val (gt_args g t) fun H=>?_
  have hc:=pc_cRight g hg hsm.names
  have h1:=ht.actions
  have h2:=ht.gotos
  have h3:=hg.terms
  have h4:=hg.nons
  unfold Short at h1 h2 h3 h4
  refine MCall.of mixed S_table_Right_ok ?_
  simp only[encG,encS] at hc
  simp (disch:=omega) only [↓wr,↓reduceIte,wq,oneV,goI,splice,Nat.reduceEqDiff,Nat.reduceAdd,Nat.reduceLT,Nat.reduceLeDiff,S_table_Right,encG,encS,encTab]
  intro b hb
  rw[set_set]
  have hbn:(H.set b (.arr 1 [[gi t.actions.length]])) b=.arr 1 [[gi t.actions.length]]:=by simp[View.set]
  generalize H.set b (.arr 1 [[gi t.actions.length]])=H1 at hbn
  try simp (disch:=omega) only [↓wr,↓reduceIte,wq,oneV,intOp,goI,splice,sBuild,fillE,nilB,isNil,Nat.reduceEqDiff,Nat.reduceAdd,Nat.reduceLT,Nat.reduceLeDiff,Int.reduceNeg,Int.reduceToNat,reduceCtorEq,encTab,hbn]
  refine CallG.pure hc (by kernel_rfl) ?_
  have hno:(right09 g && decide (1≤t.actions.length) && decide (t.actions.length≤300) && decide (t.gotos.length=t.actions.length))=false→rightT g t=false:=fun h=>by unfold rightT; rw[h]; rfl
  simp (disch:=omega) only [↓wr,↓reduceIte,wq]
  refine GoB.split (fun hr=>?_) (fun hr=>?_)
  rotate_left
  · simp (disch:=omega) only [↓wr,↓reduceIte,wq,Nat.reduceEqDiff,reduceCtorEq]
    rw[hno (by rw[hr]; rfl)]
  simp (disch:=omega) only [↓wr,↓reduceIte,wq,intOp,Nat.reduceEqDiff,Nat.reduceLT,hbn]
  refine GoB.dec (fun c1=>?_) (fun c1=>?_)
  · simp (disch:=omega) only [↓wr,↓reduceIte,wq,Nat.reduceEqDiff,reduceCtorEq]
    rw[hno (by rw[hr]; simp; omega)]
  simp (disch:=omega) only [↓wr,↓reduceIte,wq,intOp,Nat.reduceEqDiff,Nat.reduceLT,hbn]
  refine GoB.dec (fun c2=>?_) (fun c2=>?_)
  · simp (disch:=omega) only [↓wr,↓reduceIte,wq,Nat.reduceEqDiff,reduceCtorEq]
    rw[hno (by rw[hr]; simp; omega)]
  simp (disch:=omega) only [↓wr,↓reduceIte,wq,intOp,goI,Nat.reduceEqDiff,Nat.reduceAdd,Nat.reduceLT,hbn]
  refine GoB.ne (fun c3=>?_) (fun c3=>?_)
  · simp (disch:=omega) only [↓wr,↓reduceIte,wq,reduceCtorEq]
    rw[hno (by rw[hr]; simp; omega)]
  simp (disch:=omega) only [↓wr,↓reduceIte,wq,goI,Nat.reduceEqDiff,Nat.reduceAdd,Nat.reduceLT]
  have hf:=right09_fine hr
  refine LoopG.up t.actions.length (fun i T H'=>H1=H'∧(∀ k,k < i→rowC g t.actions.length (t.actions.getD k []) (t.gotos.getD k [])=true)∧T 2=.fptr (encG g) 0∧T 3=.fptr (encTab t) 0∧T 5=.ptr b 0 0∧T 30=.fro (t.actions.map fun r=>[encRow r])∧T 31=gi t.actions.length∧T 32=gi i) ⟨rfl,fun k hk=>by omega,rfl,rfl,rfl,rfl,rfl,rfl⟩ ?_
  rintro i k T _ hk ⟨rfl,hall,t2,t3,t5,t30,t31,t32⟩
  simp (disch:=omega) only [↓wr,↓reduceIte,wq,intOp,reduceCtorEq,B_table_Right_0,t31,t32,encTab]
  refine GoB.dec (fun hd=>?_) (fun hd=>?_)
  rotate_left
  · simp (disch:=omega) only [↓wr,↓reduceIte,wq,Nat.reduceEqDiff,reduceCtorEq]
    rw[show rightT g t=true from by
      unfold rightT
      rw[hr]
      simp only[Bool.and_eq_true,decide_eq_true_eq,List.all_eq_true,List.mem_range,Bool.true_and]
      exact ⟨⟨⟨by omega,by omega⟩,by omega⟩,fun k hk=>hall k (by omega)⟩]
  have hi:i < t.actions.length:=by omega
  have ha:t.actions[i]?=some (t.actions.getD i []):=getD_some hi
  have hl:t.gotos[i]?=some (t.gotos.getD i []):=getD_some (by omega)
  have ra:=ht.row _ (List.mem_of_getElem? ha)
  have rl:=ht.go _ (List.mem_of_getElem? hl)
  have hrow:=@rightT_row g t i hi
  generalize ea:t.actions.getD i []=a at ha ra hrow
  generalize el:t.gotos.getD i []=l at hl rl hrow
  have hrs:rowC g t.actions.length a l=(decide (a.length=g.terms.length+1) && decide (l.length=g.nons.length) && a.all (fitsC g t.actions.length) && l.all fun x=>decide (-1≤x) && decide (x < t.actions.length)):=rfl
  obtain ⟨sa,ra⟩:=ra
  obtain ⟨sl,rl⟩:=rl
  have hsa:=sa
  have hsl:=sl
  unfold Short at sa sl
  simp (disch:=omega) only [↓wr,↓reduceIte,wq,intOp,goI,Nat.reduceEqDiff,Nat.reduceAdd,Nat.reduceLT,t2,t30,t32,encG,encS,List.getElem?_map,ha]
  refine GoB.ne (fun d1=>?_) (fun d1=>?_)
  · simp (disch:=omega) only [↓wr,↓reduceIte,wq,intOp,Nat.reduceEqDiff,reduceCtorEq]
    rw[hrow (by rw[hrs]; simp; omega)]
  simp (disch:=omega) only [↓wr,↓reduceIte,wq,intOp,goI,Nat.reduceEqDiff,Nat.reduceAdd,Nat.reduceLT,t2,t3,encTab,encG,encS,encI,List.getElem?_map,hl]
  refine GoB.ne (fun d2=>?_) (fun d2=>?_)
  · simp (disch:=omega) only [↓wr,↓reduceIte,wq,intOp,Nat.reduceEqDiff,reduceCtorEq]
    rw[hrow (by rw[hrs]; simp; omega)]
  simp (disch:=omega) only [↓wr,↓reduceIte,wq,Nat.reduceEqDiff,t2,t5]
  refine CallG.loud ((mc_ContainsHCell a hsa 88 [.ptr b 0 0,.fptr (encG g) 0] (fun c=>!fitsC g t.actions.length c) H1 fun c _=>mc_tR1 g b t.actions.length c H1 hbn).mono ?_)
  rintro r H2 ⟨rfl,rfl⟩
  simp (disch:=omega) only [↓wr,↓reduceIte,wq]
  refine GoB.split (fun hx=>?_) (fun hx=>?_)
  · simp (disch:=omega) only [↓wr,↓reduceIte,wq,intOp,Nat.reduceEqDiff,reduceCtorEq]
    rw[hrow (by
      obtain ⟨c,hcm,hcf⟩:=List.any_eq_true.1 hx
      rw[hrs,Bool.eq_false_iff]
      intro h
      simp only[Bool.and_eq_true,List.all_eq_true] at h
      have:=h.1.2 c hcm
      rw[this] at hcf; simp at hcf)]
  simp (disch:=omega) only [↓wr,↓reduceIte,wq,Nat.reduceEqDiff,Nat.reduceAdd,Nat.reduceLT,t3,t5,encTab,encI,List.getElem?_map,hl]
  refine CallG.loud ((mc_ContainsHInt l hsl 91 [.ptr b 0 0] (fun x=>!(decide (-1≤x) && decide (x < t.actions.length))) H2 fun x _=>mc_tR2 b t.actions.length x H2 hbn).mono ?_)
  rintro r H2 ⟨rfl,rfl⟩
  simp (disch:=omega) only [↓wr,↓reduceIte,wq,Int.reduceNeg]
  refine GoB.split (fun hy=>?_) (fun hy=>?_)
  · simp (disch:=omega) only [↓wr,↓reduceIte,wq,intOp,Nat.reduceEqDiff,Int.reduceNeg,reduceCtorEq]
    rw[hrow (by
      obtain ⟨c,hcm,hcf⟩:=List.any_eq_true.1 hy
      rw[hrs,Bool.eq_false_iff]
      intro h
      simp only[Bool.and_eq_true,List.all_eq_true] at h
      have:=h.2 c hcm
      simp only[this.1,this.2] at hcf; simp at hcf)]
  · simp (disch:=omega) only [↓wr,↓reduceIte,wq,intOp,Nat.reduceEqDiff,Int.reduceNeg,reduceCtorEq,t32]
    refine up_next hk (by omega) ⟨rfl,fun k hk=>?_,t2,t3,t5,t30,t31,rfl⟩
    by_cases e:k=i
    · subst e
      rw[ea,el,hrs]
      rw[List.any_eq_false] at hx hy
      simp only[Bool.and_eq_true,List.all_eq_true,decide_eq_true_eq]
      refine ⟨⟨⟨by omega,by omega⟩,fun c hc=>?_⟩,fun x hx'=>?_⟩
      · simpa using hx c hc
      · simpa using hy x hx'
    · exact hall k (by omega)
section
variable {g r:Gram} {p q:List Bool} {o:List Int}
end
theorem bytes_beq (a b:ByteArray):(a == b)=decide (a=b):=by
  cases a with | mk a=>cases b with | mk b =>
  rw[Bool.eq_iff_iff]
  show (ByteArray.beq ⟨a⟩ ⟨b⟩=true)↔_
  simp only[ByteArray.beq]
  simp
theorem strEq_dec (a b:ByteArray):strEq a b=decide (a=b):=by
  cases a with | mk a=>cases b with | mk b =>
  rw[Bool.eq_iff_iff]
  simp[strEq]
theorem eq_step {α:Type} {a b:List α} {i:Nat} {x y:α} (hx:a[i]?=some x) (hy:b[i]?=some y) (h:a.take i=b.take i) (e:x=y):a.take (i+1)=b.take (i+1):=by
  rw[List.take_add_one,List.take_add_one,h,hx,hy,e]
theorem eq_end {α:Type} {a b:List α} {i:Nat} (ha:a.length≤i) (hb:b.length≤i) (h:a.take i=b.take i):a=b:=by
  rwa [List.take_of_length_le ha,List.take_of_length_le hb] at h
theorem ne_at {α:Type} {a b:List α} {i:Nat} {x y:α} (hx:a[i]?=some x) (hy:b[i]?=some y) (e:x≠y):a≠b:=by
  rintro rfl; rw[hx] at hy; exact e (by simpa using hy)
theorem ne_len {α:Type} {a b:List α} (h:¬ a.length=b.length):a≠b:=fun e=>h (by rw[e])
theorem fields_term (x y:Term):FieldsEq Tryz.prog 9998 #[.string x.name,.int .i64 x.level,.int .i64 x.assoc] #[.string y.name,.int .i64 y.level,.int .i64 y.assoc]
    [{ name:= "Name",type:=9,offset:=0,embedded:=false,tag:= "",pkgPath:= "",byteOffset:=0 },{ name:= "Level",type:=3,offset:=1,embedded:=false,tag:= "",pkgPath:= "",byteOffset:=16 },
        { name:= "Assoc",type:=3,offset:=2,embedded:=false,tag:= "",pkgPath:= "",byteOffset:=24 }] (x.name == y.name && (x.level == y.level && (x.assoc == y.assoc && true))) :=
  .str _ _ _ _ _ (by decide) Tryz.underlying9 rfl rfl (.int _ _ _ _ _ _ (by decide) Tryz.underlying3 rfl rfl (.int _ _ _ _ _ _ (by decide) Tryz.underlying3 rfl rfl .nil))
theorem term_eq (x y:Term):(x.name == y.name && (x.level == y.level && (x.assoc == y.assoc && true)))=decide (x=y):=by
  rw[bytes_beq,Bool.eq_iff_iff]
  cases x; cases y
  simp
theorem gram_dec (x y:Gram):decide (x=y)=(decide (x.terms=y.terms) && (decide (x.nons=y.nons) && (decide (x.rules=y.rules) && decide (x.start=y.start)))):=by
  cases x; cases y
  rw[Bool.eq_iff_iff]
  simp
theorem two_grams (g k:Gram):∀ v∈[V.agg (encG g),V.agg (encG k)],Tree v:=by
  intro v hv; simp at hv
  rcases hv with rfl | rfl <;> exact tree_agg _ (encG_tree _)
def B_gerundref09_Same_0:SC :=
  .seq (.seq (ab [aa 42 5,af 43 0 2,ae 44 43,aj 45 44,ak 46 .lss 42 45]) <|
  .cond (.tmp 46) (.skip) (.exit 0)) <|
  .seq (.block 1 (.seq (ab [af 49 0 2,ae 50 49,aa 51 5,av 52 3 50 51,au 53 3 52,af 54 0 3,ae 55 54,aa 56 5,av 57 3 55 56,au 58 3 57,((some 59),.op (.old (.binOp .neq 134 (.tmp 53) (.tmp 58) 134) 4))]) <|
  .cond (.tmp 59) (.seq (ab [aw 4 false]) <|
  .ret) (.skip))) <|
  ab [aa 47 5,ah 48 .add 47 1,aa 5 48]
def B_gerundref09_Same_1:SC :=
  .seq (.seq (ab [aa 60 6,af 61 1 2,ae 62 61,aj 63 62,ak 64 .lss 60 63]) <|
  .cond (.tmp 64) (.skip) (.exit 2)) <|
  .seq (.block 3 (.seq (ab [af 67 1 2,ae 68 67,aa 69 6,av 70 1 68 69,ae 71 70,af 72 1 3,ae 73 72,aa 74 6,av 75 1 73 74,ae 76 75,((some 77),.op (.sop .neq (.tmp 71) (.tmp 76)))]) <|
  .cond (.tmp 77) (.seq (ab [aw 4 false]) <|
  .ret) (.skip))) <|
  ab [aa 65 6,ah 66 .add 65 1,aa 6 66]
def B_gerundref09_Same_2:SC :=
  .seq (.seq (ab [aa 78 7,af 79 2 2,ae 80 79,aj 81 80,ak 82 .lss 78 81]) <|
  .cond (.tmp 82) (.skip) (.exit 4)) <|
  .seq (.block 5 (.seq (ab [af 85 2 2,ae 86 85,aa 87 7,av 88 3 86 87,au 89 3 88,af 90 2 3,ae 91 90,aa 92 7,av 93 3 91 92,au 94 3 93,((some 8),.op (.alloc [(.val (.int .i64 0)),(.emp 1),(.val (.int .i64 0))])),((some 9),.op (.alloc [(.val (.int .i64 0)),(.emp 1),(.val (.int .i64 0))])),(none,.op (.store 3 (.tmp 8) (.tmp 89))),(none,.op (.store 3 (.tmp 9) (.tmp 94)))]) <|
  .seq (.region false [⟨none,[af 95 0 8,ae 96 95,af 97 0 9,ae 98 97,ak 99 .neq 96 98,aa 100 99]⟩,⟨(some (100,false)),[af 101 2 8,ae 102 101,af 103 2 9,ae 104 103,ak 105 .neq 102 104]⟩,⟨none,[ay 106 100 105,aa 107 106]⟩,⟨(some (107,false)),[af 108 1 8,ae 109 108,af 110 1 9,ae 111 110,ao 112 21 [109,111],aB 113 112]⟩,⟨none,[ay 114 107 113]⟩]) <|
  .cond (.tmp 114) (.seq (ab [aw 4 false]) <|
  .ret) (.skip))) <|
  ab [aa 83 7,ah 84 .add 83 1,aa 7 84]
def S_gerundref09_Same:SF:=⟨.seq (ab [aC 2 0,aC 3 1,aw 4 false]) <|
  .seq (.seq (.region false [⟨none,[af 10 0 2,ae 11 10,aj 12 11,af 13 0 3,ae 14 13,aj 15 14,ak 16 .neq 12 15,aa 17 16]⟩,⟨(some (17,false)),[af 18 1 2,ae 19 18,aj 20 19,af 21 1 3,ae 22 21,aj 23 22,ak 24 .neq 20 23]⟩,⟨none,[ay 25 17 24,aa 26 25]⟩,⟨(some (26,false)),[af 27 2 2,ae 28 27,aj 29 28,af 30 2 3,ae 31 30,aj 32 31,ak 33 .neq 29 32]⟩,⟨none,[ay 34 26 33,aa 35 34]⟩,⟨(some (35,false)),[af 36 3 2,ae 37 36,af 38 3 3,ae 39 38,ak 40 .neq 37 39]⟩,⟨none,[ay 41 35 40]⟩]) <|
  .cond (.tmp 41) (.seq (ab [aw 4 false]) <|
  .ret) (.skip)) <|
  .seq (.seq (ab [ai 5 0]) <|
  .block 0 (.loop B_gerundref09_Same_0)) <|
  .seq (.seq (ab [ai 6 0]) <|
  .block 2 (.loop B_gerundref09_Same_1)) <|
  .seq (.seq (ab [ai 7 0]) <|
  .block 4 (.loop B_gerundref09_Same_2)) <|
  .seq (ab [aw 4 true]) <|
  .ret,
  [.tmp 4],115⟩
theorem S_gerundref09_Same_ok:compF Tryz.prog 44 [2,3]=some S_gerundref09_Same:=by kernel_rfl
set_option maxHeartbeats 2000000 in
theorem pc_Same09 (g k:Gram) (hg:g.Ok):PCall Tryz.prog 44 [.agg (encG g),.agg (encG k)] (gb (decide (g=k))):=by
  refine PCall.val (two_grams g k) fun H=>?_
  rw[gram_dec]
  refine MCall.of mixed S_gerundref09_Same_ok ?_
  have h1:=hg.terms
  have h2:=hg.nons
  have h3:=hg.rules
  unfold Short at h1 h2 h3
  simp (disch:=omega) only [↓wr,↓reduceIte,wq,oneV,intOp,goI,Nat.reduceEqDiff,Nat.reduceAdd,Nat.reduceLT,Nat.reduceLeDiff,S_gerundref09_Same,encG,encS]
  repeat' (first | (refine GoB.dec (fun _=>?_) (fun _=>?_)) | (refine GoB.eq (fun _=>?_) (fun _=>?_)) | (refine GoB.ne (fun _=>?_) (fun _=>?_)) | (refine GoB.split (fun _=>?_) (fun _=>?_)) | (simp (disch:=omega) only [↓wr,↓reduceIte,wq,intOp,goI,Nat.reduceEqDiff,Nat.reduceAdd,Nat.reduceLT,reduceCtorEq]))
  · rename_i e; rw[decide_eq_false (ne_len (by omega))]; rfl
  · rename_i e; rw[decide_eq_false (p:=g.nons=k.nons) (ne_len (by omega))]; simp
  · rename_i e; rw[decide_eq_false (p:=g.rules=k.rules) (ne_len (by omega))]; simp
  · rename_i e; rw[decide_eq_false e]; simp
  rename_i l1 l2 l3 l4
  refine LoopG.up g.terms.length (fun i T _=>g.terms.take i=k.terms.take i∧T 2=.fptr (encG g) 0∧T 3=.fptr (encG k) 0∧T 5=gi i) ⟨by simp,rfl,rfl,rfl⟩ ?_
  rintro i m T H hm ⟨hi,t2,t3,t5⟩
  simp (disch:=omega) only [↓wr,↓reduceIte,wq,intOp,goI,Nat.reduceEqDiff,Nat.reduceAdd,Nat.reduceLT,B_gerundref09_Same_0,t2,t5,encG,encS]
  refine GoB.dec (fun hc=>?_) (fun hc=>?_)
  · have hx:=List.getElem?_eq_getElem (l:=g.terms) (i:=i) (by omega)
    have hy:=List.getElem?_eq_getElem (l:=k.terms) (i:=i) (by omega)
    generalize g.terms[i]'(by omega)=x at hx
    generalize k.terms[i]'(by omega)=y at hy
    simp (disch:=omega) only [↓wr,↓reduceIte,wq,Nat.reduceEqDiff,Nat.reduceAdd,Nat.reduceLT,Nat.reduceLeDiff,t2,t3,t5,List.getElem?_map,hx,hy,encT,encG,encS]
    refine oldStructEq (xs:=#[.string x.name,.int .i64 x.level,.int .i64 x.assoc]) (ys:=#[.string y.name,.int .i64 y.level,.int .i64 y.assoc]) Tryz.underlying134 (by kernel_rfl) (by kernel_rfl) ?_ ?_ (fields_term x y) (.inr ⟨rfl,rfl⟩) ?_
    · rfl
    · rfl
    rw[term_eq]
    simp (disch:=omega) only [↓wr,↓reduceIte,wq]
    refine GoB.split (fun e=>?_) (fun e=>?_)
    · simp (disch:=omega) only [↓wr,↓reduceIte,wq,intOp,Nat.reduceEqDiff,reduceCtorEq,t5]
      exact up_next hm (by omega) ⟨eq_step hx hy hi (by simpa using e),t2,t3,rfl⟩
    · simp (disch:=omega) only [↓wr,↓reduceIte,wq,intOp,Nat.reduceEqDiff,reduceCtorEq,t5]
      rw[decide_eq_false (ne_at hx hy (by simpa using e))]; rfl
  have e1:g.terms=k.terms:=eq_end (by omega) (by omega) hi
  simp (disch:=omega) only [↓wr,↓reduceIte,wq,Nat.reduceEqDiff,reduceCtorEq]
  clear hi hc hm
  refine LoopG.up g.nons.length (fun i T _=>g.nons.take i=k.nons.take i∧T 2=.fptr (encG g) 0∧T 3=.fptr (encG k) 0∧T 6=gi i) ⟨by simp,t2,t3,rfl⟩ ?_
  clear t2 t3 t5 T H i m
  rintro i m T H hm ⟨hi,t2,t3,t5⟩
  simp (disch:=omega) only [↓wr,↓reduceIte,wq,intOp,goI,Nat.reduceEqDiff,Nat.reduceAdd,Nat.reduceLT,B_gerundref09_Same_1,t2,t5,encG,encS]
  refine GoB.dec (fun hc=>?_) (fun hc=>?_)
  · have hx:=List.getElem?_eq_getElem (l:=g.nons) (i:=i) (by omega)
    have hy:=List.getElem?_eq_getElem (l:=k.nons) (i:=i) (by omega)
    generalize g.nons[i]'(by omega)=x at hx
    generalize k.nons[i]'(by omega)=y at hy
    simp (disch:=omega) only [↓wr,↓reduceIte,wq,Nat.reduceEqDiff,Nat.reduceAdd,Nat.reduceLT,t2,t3,t5,List.getElem?_map,hx,hy,encG,encS,strEq_dec]
    refine GoB.split (fun e=>?_) (fun e=>?_)
    · simp (disch:=omega) only [↓wr,↓reduceIte,wq,intOp,Nat.reduceEqDiff,reduceCtorEq,t5]
      exact up_next hm (by omega) ⟨eq_step hx hy hi (by simpa using e),t2,t3,rfl⟩
    · simp (disch:=omega) only [↓wr,↓reduceIte,wq,intOp,Nat.reduceEqDiff,reduceCtorEq,t5]
      rw[decide_eq_false (p:=g.nons=k.nons) (ne_at hx hy (by simpa using e))]; simp
  have e2:g.nons=k.nons:=eq_end (by omega) (by omega) hi
  simp (disch:=omega) only [↓wr,↓reduceIte,wq,Nat.reduceEqDiff,reduceCtorEq]
  clear hi hc hm
  refine LoopG.up g.rules.length (fun i T _=>g.rules.take i=k.rules.take i∧T 2=.fptr (encG g) 0∧T 3=.fptr (encG k) 0∧T 7=gi i) ⟨by simp,t2,t3,rfl⟩ ?_
  clear t2 t3 t5 T H i m
  rintro i m T H hm ⟨hi,t2,t3,t5⟩
  simp (disch:=omega) only [↓wr,↓reduceIte,wq,intOp,goI,Nat.reduceEqDiff,Nat.reduceAdd,Nat.reduceLT,reduceCtorEq,B_gerundref09_Same_2,t2,t5,encG,encS]
  refine GoB.dec (fun hc=>?_) (fun hc=>?_)
  · have hx:=List.getElem?_eq_getElem (l:=g.rules) (i:=i) (by omega)
    have hy:=List.getElem?_eq_getElem (l:=k.rules) (i:=i) (by omega)
    have hmx:g.rules[i]'(by omega)∈g.rules:=List.getElem_mem _
    generalize g.rules[i]'(by omega)=x at hx hmx
    generalize k.rules[i]'(by omega)=y at hy
    have hsx:=(hg.rule x hmx).2.2.1
    simp (disch:=omega) only [↓wr,↓reduceIte,wq,splice,Nat.reduceEqDiff,Nat.reduceAdd,Nat.reduceLT,Nat.reduceLeDiff,t2,t3,t5,List.getElem?_map,hx,hy,encR,encI,encG,encS]
    intro n hn
    try simp (disch:=omega) only [↓wr,↓reduceIte,wq,oneV,intOp,goI,splice,sBuild,fillE,nilB,isNil,Nat.reduceEqDiff,Nat.reduceAdd,Nat.reduceLT,Nat.reduceLeDiff,Int.reduceNeg,Int.reduceToNat,reduceCtorEq,t2,t3,t5,encR,encI]
    intro n2 hn2
    have hmn:=(dead_if hn2 arr_live).1
    try simp (disch:=omega) only [↓wr,↓reduceIte,wq,intOp,splice,Nat.reduceEqDiff,Nat.reduceAdd,Nat.reduceLT,Nat.reduceLeDiff,hmn,hmn.symm]
    have hne:x≠y→V.val (Value.bool false)=V.val (Value.bool (decide (g.terms=k.terms) && (decide (g.nons=k.nons) && (decide (g.rules=k.rules) && decide (g.start=k.start))))):=fun e=>by
      rw[decide_eq_false (p:=g.rules=k.rules) (ne_at hx hy e)]; simp
    repeat' (first | (refine GoB.dec (fun _=>?_) (fun _=>?_)) | (refine GoB.eq (fun _=>?_) (fun _=>?_)) | (refine GoB.ne (fun _=>?_) (fun _=>?_)) | (refine GoB.split (fun _=>?_) (fun _=>?_)) | (refine CallG.pure (pc_Ints x.right y.right hsx) (by kernel_rfl) ?_) | (simp (disch:=omega) only [↓wr,↓reduceIte,wq,intOp,Nat.reduceEqDiff,Nat.reduceAdd,Nat.reduceLT,reduceCtorEq,t5,hmn.symm]))
    · rename_i e; exact hne fun h=>e (by rw[h])
    · rename_i e; exact hne fun h=>e (by rw[h])
    · rename_i e3 e2 e1
      refine up_next hm (by omega) ⟨eq_step hx hy hi ?_,t2,t3,rfl⟩
      cases x; cases y
      simp_all
    · rename_i e; exact hne fun h=>by rw[h] at e; simp at e
  · have e3:g.rules=k.rules:=eq_end (by omega) (by omega) hi
    simp (disch:=omega) only [↓wr,↓reduceIte,wq,Nat.reduceEqDiff,reduceCtorEq]
    simp[e1,e2,e3,l4]
def S_gerundref11_Is:SF:=⟨.seq (ab [aC 1 0,aw 2 false]) <|
  .seq (ab [au 7 4 1,ao 8 82 [7],aa 6 8,aA 9 0 6,aA 10 1 6,aA 11 2 6,((some 3),.op (.alloc [(.emp 1),(.emp 1),(.emp 1),(.val (.int .i64 0))])),(none,.op (.store 4 (.tmp 3) (.tmp 9))),aa 4 10,aa 5 11]) <|
  .seq (.region false [⟨none,[aa 12 5,ah 13 .eql 12 0,aa 14 13]⟩,⟨(some (14,true)),[au 15 4 1,au 16 4 3,ao 17 44 [15,16]]⟩,⟨none,[az 18 14 17,aa 2 18]⟩]) <|
  .ret,
  [.tmp 2],19⟩
theorem S_gerundref11_Is_ok:compF Tryz.prog 38 [1]=some S_gerundref11_Is:=by kernel_rfl
theorem pc_gIs (g:Gram) (hg:g.Ok):PCall Tryz.prog 38 [.agg (encG g)] (gb (isRed g)):=by
  refine PCall.val (gg_tree g) fun H=>?_
  refine MCall.of mixed S_gerundref11_Is_ok ?_
  simp (disch:=omega) only [↓wr,↓reduceIte,wq,oneV,Nat.reduceEqDiff,Nat.reduceAdd,Nat.reduceLeDiff,S_gerundref11_Is,encG,encS]
  refine CallG.pure (pn_Reduce11 g hg).pure (by kernel_rfl) ?_
  unfold isRed
  generalize reduce09 g=x
  obtain ⟨k,il,e⟩:=x
  simp (disch:=omega) only [↓wr,↓reduceIte,wq,intOp,splice,Nat.reduceEqDiff,Nat.reduceAdd,Nat.reduceLT,Nat.reduceLeDiff,outR,encG,encS]
  intro n hn
  refine GoB.eq (fun h=>?_) (fun h=>?_)
  · simp (disch:=omega) only [↓wr,↓reduceIte,wq,Nat.reduceEqDiff,Nat.reduceAdd,Nat.reduceLT,Nat.reduceLeDiff]
    refine CallG.pure (pc_Same09 g k hg) (by kernel_rfl) ?_
    simp (disch:=omega) only [↓wr,↓reduceIte,wq,Nat.reduceEqDiff,reduceCtorEq]
    simp[h]
  · simp (disch:=omega) only [↓wr,↓reduceIte,wq,Nat.reduceEqDiff,reduceCtorEq]
    simp[h]
theorem FrN.fr {h:Heap} {v t:V} (f:FrN h v t):Fr h v t:=by
  induction f with
  | val v=>exact .tree _ (.val _)
  | emp k=>exact .emp k
  | sl id off len esz z es es' h1 h2 h3 h4 _ ih=>exact .sl id off len esz z es es' h1 h2 h3 h4 ih
  | agg cs cs' h1 _ ih=>exact .agg cs cs' h1 ih
  | tup cs cs' h1 _ ih=>exact .tup cs cs' h1 ih
theorem ints_okB (l:List Int):((intsE l).all fun e=>e.length == 1 && e.all cellOk)=true:=by simp[List.all_map,cellOk]
section
variable {κ:Type} [BEq κ] [LawfulBEq κ] {kv:κ→V}
variable {P:Program} {T:Env} {H:View} {kt et t ty:TypeId}
end
def text5:List Int:=[37,37,32,115,32,58,32,39,97,39,32,115,32,124,32,59]
def gram5:Gram:=⟨[⟨⟨#[39,97,39]⟩,0,0⟩],[⟨#[115]⟩],[⟨0,[0,(-1)],0⟩,⟨0,[],(-1)⟩],0⟩
theorem read5:PNew Tryz.prog 52 [encY text5] (readOut gram5):=read_of (by kernel_rfl)
section
variable {g:Gram} {p:List Int} {T:Tb} {N:Nat}
end
section
variable {g r:Gram} {p q:List Bool} {o:List Int}
end
section
variable {fit:List Int→Bool} {T b:Nat}
end
def encLL (l:List (List Int)):V:=.fro (l.map fun w=>[encI w])
abbrev Wds:=List (V × List Int)
def wdsE (b:Wds):List (List V):=b.map fun x=>[x.1]
def Outs (H:View) (u:V) (out:List (List Int)):Prop:=∃ b:Wds,b.map (·.2)=out∧OwnA H u 1 (wdsE b)∧∀ x∈b,OwnA H x.1 1 (intsE x.2)
theorem Outs.frn {h:Heap} {u:V} {out:List (List Int)} (ho:Outs h.view u out):FrN h u (encLL out):=by
  obtain ⟨b,rfl,ho,hb⟩:=ho
  have hg:∀ i (hi:i < b.length),(wdsE b).getD i []=[(b[i]).1]∧(((b.map (·.2)).map fun w=>[encI w]).getD i [])=[encI (b[i]).2]:=fun i hi=>by
    simp[wdsE,List.getD_eq_getElem?_getD,hi]
  refine FrN.own ho (by simp[wdsE]) (fun i hi=>?_) (fun i j hi hj=>?_)
  · have hi':i < b.length:=by simpa [wdsE] using hi
    rw[(hg i hi').1,(hg i hi').2]; rfl
  · have hi':i < b.length:=by simpa [wdsE] using hi
    rw[(hg i hi').2] at hj ⊢
    rw[(hg i hi').1]
    have:j=0:=by simp at hj; omega
    subst this
    simp only[List.getD_cons_zero]
    exact FrN.vals (hb _ (List.getElem_mem hi'))
theorem own_off {H:View} {u:V} {sz f z:Nat} {es:List (List V)} {e:List (List V)} (ho:OwnA H u sz es) (hf:H f=.arr z e) (hz:sz≠z):owner u≠some f:=fun e2=>by
  have:=(ho.live e2).1
  rw[hf] at this
  simp only[AObj.arr.injEq] at this
  exact hz this.1.symm
section
variable {P:Program} {T:Env} {H:View} {K:V→View→Prop} {w:Veil (T,H,K)} {t t1 e ty:TypeId}
theorem oldCap {x:Operand} {k:Nat} (he:sliceElem P t=some e) (hx:ev T x=.emp k) (hk:K (goI 0) H):GoOld P (.call { callee:=.builtin .cap,args:=#[x],argTypes:=#[t] }) ty T H K w:=by
  intro n _
  refine ⟨goI 0,.none,[],?_,hk⟩
  simp[sI,aop,oper,aCap,he,hx]
theorem oldAppZ {s x:Operand} {k l sz bytes:Nat} {z:List V} (he:elemK P t=some (sz,bytes,z)) (hd:noInt P t1=false) (hi:isInt P t1=true) (hs:ev T s=.emp k) (hx:ev T x=goI l) (h0:l≠0)
    (h1:l * bytes < limit) (h2:l < limit) (hk:∀ n,H n=.dead→K (.sl n 0 l sz) (H.set n (.arr sz (List.replicate l z)))) :
    GoOld P (.call { callee:=.builtin .append,args:=#[s,x],argTypes:=#[t,t1] }) ty T H K w:=by
  obtain ⟨e,ti,hse,_,hti,hz,hzl,hzok,hs0,rfl,rfl⟩:=elemK_ok he
  intro n hn
  refine ⟨.sl n 0 l ti.size,.new (.arr ti.size (List.replicate l z)),[],?_,hk n hn⟩
  have ha:asNat (goI l)=some l:=by simp[asNat,goI]
  have key:aAppZ P t (.emp k) (goI l) n=some (.sl n 0 l ti.size,.new (.arr ti.size (List.replicate l z)),[]):=by
    unfold aAppZ
    rw[hse,ha]
    simp only[hti,hz,if_neg h0]
    rw[if_pos ⟨hzl,hzok,hs0,h1,h2⟩]
  simp[sI,aop,oper,hd,hi,hs,hx,key]
end
def S_slices_Grow___int_int_:SF:=⟨.seq (ab [((some 4),.op (.mov (.val (.emp 1))))]) <|
  .seq (.seq (ab [aa 5 1,ah 6 .lss 5 0]) <|
  .cond (.tmp 6) (.region false [⟨none,[((some 7),.op (.old (.makeInterface 9 (.const (.string ⟨#[99,97,110,110,111,116,32,98,101,32,110,101,103,97,116,105,118,101]⟩))) 20)),(none,.op (.old (.panic (.tmp 7)) 0))]⟩]) (.skip)) <|
  .seq (.seq (ab [aa 8 1,aa 9 0,((some 10),.op (.old (.call { callee:=.builtin .cap,args:=#[(.tmp 9)],argTypes:=#[27] }) 3)),aa 11 0,aj 12 11,ak 13 .sub 10 12,ak 14 .sub 8 13,aa 1 14]) <|
  .seq (ab [aa 15 1,ah 16 .gtr 15 0]) <|
  .cond (.tmp 16) (ab [aa 17 0,aa 18 0,((some 19),.op (.old (.call { callee:=.builtin .cap,args:=#[(.tmp 18)],argTypes:=#[27] }) 3)),((some 20),.op (.slice 1 (.tmp 17) none (some (.tmp 19)))),aa 21 1,((some 22),.op (.old (.call { callee:=.builtin .append,args:=#[(.tmp 20),(.tmp 21)],argTypes:=#[27,3] }) 27)),aa 23 0,aj 24 23,((some 25),.op (.slice 1 (.tmp 22) none (some (.tmp 24)))),aa 0 25]) (.skip)) <|
  .seq (ab [aa 26 0,aa 4 26]) <|
  .ret,
  [.tmp 4],27⟩
theorem S_slices_Grow___int_int__ok:compF Tryz.prog 147 []=some S_slices_Grow___int_int_:=by kernel_rfl
def B_slices_Concat___int_int__0:SC :=
  .seq (ab [ak 12 .lss 11 10]) <|
  .seq (.cond (.tmp 12) (.skip) (.exit 0)) <|
  .seq (.block 1 (.seq (ab [av 13 1 9 11,ae 14 13,aa 5 14]) <|
  .seq (ab [aa 15 3,aa 16 5,aj 17 16,ak 18 .add 15 17,aa 3 18]) <|
  .seq (ab [aa 19 3,ah 20 .lss 19 0]) <|
  .cond (.tmp 20) (.region false [⟨none,[((some 21),.op (.old (.makeInterface 9 (.const (.string ⟨#[108,101,110,32,111,117,116,32,111,102,32,114,97,110,103,101]⟩))) 20)),(none,.op (.old (.panic (.tmp 21)) 0))]⟩]) (.skip))) <|
  ab [ah 22 .add 11 1,aa 11 22]
def B_slices_Concat___int_int__1:SC :=
  .seq (ab [ak 28 .lss 27 26]) <|
  .seq (.cond (.tmp 28) (.skip) (.exit 2)) <|
  .seq (.block 3 (.seq (ab [av 29 1 25 27,ae 30 29,aa 8 30]) <|
  ab [aa 31 6,aa 32 8,((some 33),.op (.app 1 8 (.tmp 31) (.tmp 32))),aa 6 33])) <|
  ab [ah 34 .add 27 1,aa 27 34]
def S_slices_Concat___int_int_:SF:=⟨.seq (ab [((some 2),.op (.mov (.val (.emp 1))))]) <|
  .seq (ab [ai 3 0]) <|
  .seq (.seq (ab [aa 9 0,aj 10 9,ai 11 0]) <|
  .block 0 (.loop B_slices_Concat___int_int__0)) <|
  .seq (ab [aa 23 3,aD 24 147 [(.val (.emp 1)),(.tmp 23)],aa 6 24]) <|
  .seq (.seq (ab [aa 25 0,aj 26 25,ai 27 0]) <|
  .block 2 (.loop B_slices_Concat___int_int__1)) <|
  .seq (ab [aa 35 6,aa 2 35]) <|
  .ret,
  [.tmp 2],36⟩
theorem S_slices_Concat___int_int__ok:compF Tryz.prog 102 []=some S_slices_Concat___int_int_:=by kernel_rfl
theorem mo_GrowNil (n:Nat) (hn:n≤100000) (H:View):MCall Tryz.prog 147 [.emp 1,gi n] H fun r H'=>(n=0∧r=.emp 1∧H'=H)∨(0 < n∧∃ m es,H m=.dead∧r=.sl m 0 0 1∧H'=H.set m (.arr 1 es)):=by
  refine MCall.of mixed S_slices_Grow___int_int__ok ?_
  simp (disch:=omega) only [↓wr,↓reduceIte,wq,oneV,intOp,Nat.reduceEqDiff,Nat.reduceAdd,Nat.reduceLeDiff,S_slices_Grow___int_int_]
  refine GoB.dec (fun h=>absurd h (by omega)) (fun _=>?_)
  simp (disch:=omega) only [↓wr,↓reduceIte,wq,Nat.reduceEqDiff,reduceCtorEq]
  refine oldCap (k:=1) (e:=3) (by kernel_rfl) (by simp (disch:=omega) only [↓wr,↓reduceIte]) ?_
  simp (disch:=omega) only [↓wr,↓reduceIte,wq,intOp,goI,Nat.reduceEqDiff,reduceCtorEq]
  refine GoB.dec (fun h=>?_) (fun h=>?_)
  · simp (disch:=omega) only [↓wr,↓reduceIte,wq,reduceCtorEq]
    refine oldCap (k:=1) (e:=3) (by kernel_rfl) (by simp (disch:=omega) only [↓wr,↓reduceIte]) ?_
    simp (disch:=omega) only [↓wr,↓reduceIte,wq,goI,Nat.reduceEqDiff]
    rw[show sSlice 1 (.emp 1) none (some (.val (.int .i64 ((0:Nat):Int))))=some (.emp 1,.none,[]) from rfl]
    simp (disch:=omega) only [↓wr,↓reduceIte,wq,Nat.reduceEqDiff]
    refine oldAppZ (k:=1) (l:=n) (sz:=1) (bytes:=8) (z:=[gi 0]) (by kernel_rfl) (by kernel_rfl) (by kernel_rfl) (by simp (disch:=omega) only [↓wr,↓reduceIte,Nat.reduceEqDiff]) (by simp (disch:=omega) only [↓wr,↓reduceIte,goI]; simp) (by omega) (by unfold limit; omega) (by unfold limit; omega) ?_
    intro m hm
    simp (disch:=omega) only [↓wr,↓reduceIte,wq,goI,Nat.reduceEqDiff,reduceCtorEq]
    rw[show sSlice 1 (.sl m 0 n 1) none (some (.val (.int .i64 ((0:Nat):Int))))=some (.sl m 0 0 1,.none,[]) by simp[sSlice,bound,asNat]]
    simp (disch:=omega) only [↓wr,↓reduceIte,wq,reduceCtorEq]
    exact .inr ⟨by omega,m,_,hm,rfl,rfl⟩
  · simp (disch:=omega) only [↓wr,↓reduceIte,wq,reduceCtorEq]
    exact .inl (by omega)
def ArgI (H:View) (u:V) (l:List Int):Prop:=u=encI l∨OwnA H u 1 (intsE l)
theorem ArgI.elems {H:View} {u:V} {l:List Int} (h:ArgI H u l):∃ rd,elemsOf H u=some (intsE l,rd):=by
  rcases h with rfl | h
  · exact ⟨[],elemsOf_fro _ _⟩
  generalize intsE l=es0 at h
  rcases h with ⟨rfl,k,rfl⟩ | ⟨n,rfl,hn⟩
  · exact ⟨_,elemsOf_emp _ k⟩
  · cases es0 with
    | nil=>exact ⟨[],by simp[elemsOf]⟩
    | cons e es =>
      exact ⟨_,by rw[show (e :: es).length=es.length+1 from rfl,elemsOf_sl _ n 0 es.length 1 1 _ hn (by simp),List.drop_zero,List.take_of_length_le (by simp)]⟩
theorem ArgI.len {H:View} {u:V} {l:List Int} (h:ArgI H u l):lenV u=some l.length:=by
  rcases h with rfl | h
  · simp[encI,lenV]
  · rw[h.len]; simp
theorem ArgI.keep {H H':View} {u:V} {l:List Int} (h:ArgI H u l) (hk:∀ id,H id≠.dead→H' id=H id):ArgI H' u l:=by
  rcases h with rfl | h
  · exact .inl rfl
  · exact .inr (h.keep fun id hid=>hk id (by rw[(h.live hid).1]; simp))
def RoomI (H:View) (u:V) (l:List Int):Prop:=OwnA H u 1 (intsE l)∨(l=[]∧∃ m es,u=.sl m 0 0 1∧H m=.arr 1 es)
theorem goApp_room {bytes:Nat} {u:V} {l xs:List Int} {H:View} {K:V→View→Prop} {w:Veil (H,K)} (ho:RoomI H u l) (hl:(l.length+xs.length) * bytes < limit) (hl2:l.length+xs.length < limit) (hb:bytes=8)
    (hk:∀ u' H',RoomI H' u' (l ++ xs)→(OwnA H u 1 (intsE l)→OwnA H' u' 1 (intsE (l ++ xs)))→Left H H' u u'→K u' H'):GoApp 1 bytes u (intsE xs) H K w:=by
  rcases ho with ho | ⟨rfl,m,es,rfl,hm⟩
  · exact goApp_all ho (by simp[List.all_map,cellOk]) (by simpa using hl) (by simpa using hl2) fun u' H' h1 h2=>hk u' H' (.inl (by simpa using h1)) (fun _=>by simpa using h1) h2
  · cases xs with
    | nil=>exact hk _ _ (.inr ⟨rfl,m,es,rfl,hm⟩) (fun h=>by simpa using h) .refl
    | cons x xs =>
      rw[goApp_sl _ _ _ _ _ _ _ _ _ _ (by simp),hm]
      refine ⟨by simp[List.all_map,cellOk],⟨by simp,rfl,by simpa using hl,by simpa using hl2⟩,fun n hn=>hk _ _ (.inl (.inr ⟨n,by simp,by simp[View.set]⟩)) (fun _=>.inr ⟨n,by simp,by simp[View.set]⟩) fun id hid ho=>?_⟩
      have e:id≠n:=by rintro rfl; exact hid hn
      have e2:id≠m:=by rintro rfl; exact ho rfl
      exact ⟨by simp[View.set,e,e2],by simp[owner,Ne.symm e]⟩
set_option maxHeartbeats 4000000 in
theorem mo_Concat (us:List (V × List Int)) (q:Nat) (H:View) (hq:H q=.arr 1 (us.map fun x=>[x.1])) (ha:∀ x∈us,ArgI H x.1 x.2) (hl:(us.map (·.2)).flatten.length≤100000) (hu:us.length≤1000) :
    MCall Tryz.prog 102 [.sl q 0 us.length 1] H fun r H'=>OwnA H' r 1 (intsE (us.map (·.2)).flatten)∧Fresh H H' r:=by
  have hsum:∀ i,((us.take i).map (·.2)).flatten.length≤100000:=fun i=>by
    have:=List.take_append_drop i us
    have h2:(us.map (·.2)).flatten=((us.take i).map (·.2)).flatten ++ ((us.drop i).map (·.2)).flatten:=by rw[← List.flatten_append,← List.map_append,this]
    rw[h2,List.length_append] at hl; omega
  refine MCall.of mixed S_slices_Concat___int_int__ok ?_
  simp (disch:=omega) only [↓wr,↓reduceIte,wq,oneV,goI,Nat.reduceLeDiff,reduceCtorEq,S_slices_Concat___int_int_]
  refine LoopG.up us.length (fun i T H'=>H'=H∧T 0=.sl q 0 us.length 1∧T 3=gi ((us.take i).map (·.2)).flatten.length∧T 9=.sl q 0 us.length 1∧T 10=gi us.length∧T 11=gi i) ⟨rfl,rfl,rfl,rfl,rfl,rfl⟩ ?_
  rintro i k T H1 hk ⟨rfl,t0,t3,t9,t10,t11⟩
  simp (disch:=omega) only [↓wr,↓reduceIte,wq,intOp,B_slices_Concat___int_int__0,t10,t11]
  refine GoB.dec (fun hi=>?_) (fun hi=>?_)
  · have h2:us[i]?=some (us[i]'(by omega)):=List.getElem?_eq_getElem (by omega)
    have hm:=List.mem_of_getElem? h2
    have htk:us.take (i+1)=us.take i ++ [us[i]'(by omega)]:=by rw[List.take_add_one,h2]; rfl
    have hs1:=hsum (i+1)
    have hgd:(us.map fun x=>[x.1]).getD i []=[(us[i]'(by omega)).1]:=by simp[List.getD_eq_getElem?_getD,h2]
    generalize us[i]'(by omega)=x at h2 hm htk hgd
    have hx:=(ha x hm).len
    rw[htk] at hs1
    simp only[List.map_append,List.map_cons,List.map_nil,List.flatten_append,List.flatten_cons,List.flatten_nil,List.append_nil,List.length_append] at hs1
    simp (disch:=omega) only [↓wr,↓reduceIte,wq,intOp,goI,Nat.reduceEqDiff,Nat.reduceLT,t3,t9,t11,hq,hgd,hx]
    refine ⟨by omega,by omega,?_⟩
    refine GoB.dec (fun h=>absurd h (by omega)) (fun _=>?_)
    simp (disch:=omega) only [↓wr,↓reduceIte,wq,intOp,Nat.reduceEqDiff,reduceCtorEq,t11]
    refine up_next hk (by omega) ⟨rfl,t0,?_,t9,t10,rfl⟩
    rw[htk,List.map_append,List.flatten_append,List.length_append,List.map_cons,List.map_nil,List.flatten_cons,List.flatten_nil,List.append_nil]
    push_cast
    rfl
  · simp (disch:=omega) only [↓wr,↓reduceIte,wq,Nat.reduceEqDiff,reduceCtorEq,t3]
    have e:us.take i=us:=List.take_of_length_le (by omega)
    rw[e]
    refine CallG.loud ((mo_GrowNil _ hl H1).mono ?_)
    intro r H2 hr
    have hro:RoomI H2 r []∧Fresh H1 H2 r:=by
      rcases hr with ⟨_,rfl,rfl⟩ | ⟨_,m,es,hm,rfl,rfl⟩
      · exact ⟨.inl .nil,.emp⟩
      · exact ⟨.inr ⟨rfl,m,es,rfl,by simp[View.set]⟩,.new hm⟩
    have hlast:(us.map (·.2)).flatten.length=0→OwnA H2 r 1 (intsE []):=fun h0=>by
      rcases hr with ⟨_,rfl,_⟩ | ⟨h1,_⟩
      · exact .nil
      · omega
    obtain ⟨hroom,hfr⟩:=hro
    simp (disch:=omega) only [↓wr,↓reduceIte,wq,goI,reduceCtorEq,t0]
    refine LoopG.up us.length (fun i T H'=>∃ u,T 6=u∧RoomI H' u ((us.take i).map (·.2)).flatten∧((us.map (·.2)).flatten.length=0→OwnA H' u 1 (intsE ((us.take i).map (·.2)).flatten))∧Fresh H1 H' u∧T 25=.sl q 0 us.length 1∧T 26=gi us.length∧T 27=gi i) ⟨r,rfl,hroom,hlast,hfr,rfl,rfl,rfl⟩ ?_
    rintro i k T H3 hk ⟨u,t6,ho,hz,hf,t25,t26,t27⟩
    simp (disch:=omega) only [↓wr,↓reduceIte,wq,intOp,reduceCtorEq,B_slices_Concat___int_int__1,t26,t27]
    refine GoB.dec (fun hi=>?_) (fun hi=>?_)
    · have h2:us[i]?=some (us[i]'(by omega)):=List.getElem?_eq_getElem (by omega)
      have hm:=List.mem_of_getElem? h2
      have htk:us.take (i+1)=us.take i ++ [us[i]'(by omega)]:=by rw[List.take_add_one,h2]; rfl
      have hs1:=hsum (i+1)
      have hgd:(us.map fun x=>[x.1]).getD i []=[(us[i]'(by omega)).1]:=by simp[List.getD_eq_getElem?_getD,h2]
      generalize us[i]'(by omega)=x at h2 hm htk hgd
      rw[htk,List.map_append,List.flatten_append,List.length_append,List.map_cons,List.map_nil,List.flatten_cons,List.flatten_nil,List.append_nil] at hs1
      have hq3:H3 q=.arr 1 (us.map fun x=>[x.1]):=by rw[(hf q (by rw[hq]; simp)).1,hq]
      obtain ⟨rd,he⟩:=((ha x hm).keep fun id hid=>(hf id hid).1).elems
      simp (disch:=omega) only [↓wr,↓reduceIte,wq,Nat.reduceEqDiff,Nat.reduceLT,t6,t25,t27,hq3,hgd,he]
      refine ⟨by omega,by omega,?_⟩
      refine goApp_room ho (by unfold limit; omega) (by unfold limit; omega) rfl ?_
      intro u' H4 ho4 hz4 l4
      simp (disch:=omega) only [↓wr,↓reduceIte,wq,intOp,Nat.reduceEqDiff,reduceCtorEq,t27]
      refine up_next hk (by omega) ⟨u',rfl,?_,fun h0=>?_,fun id hid=>?_,t25,t26,rfl⟩
      · rw[htk]; simpa using ho4
      · rw[htk]; simpa using hz4 (hz h0)
      · obtain ⟨a,b⟩:=hf id hid
        obtain ⟨c,d⟩:=l4 id (by rw[a]; exact hid) b
        exact ⟨c.trans a,d⟩
    · simp (disch:=omega) only [↓wr,↓reduceIte,wq,Nat.reduceEqDiff,reduceCtorEq,t6]
      have e:us.take i=us:=List.take_of_length_le (by omega)
      rw[e] at ho hz
      refine ⟨?_,hf⟩
      rcases ho with ho | ⟨h0,m,es,rfl,hm⟩
      · exact ho
      · exact hz (by rw[h0]; rfl)
def Tail (H:View) (u:V) (l:List Int):Prop:=∃ (id off:Nat) (es:List (List V)),u=.sl id off l.length 1∧H id=.arr 1 es∧off+l.length≤es.length∧(es.drop off).take l.length=intsE l
theorem Tail.len {H:View} {u:V} {l:List Int} (h:Tail H u l):lenV u=some l.length:=by
  obtain ⟨id,off,es,rfl,_⟩:=h; rfl
theorem Tail.keep {H H':View} {u:V} {l:List Int} (h:Tail H u l) (hk:∀ id es,H id=.arr 1 es→H' id=H id):Tail H' u l:=by
  obtain ⟨id,off,es,h1,h2,h3,h4⟩:=h
  exact ⟨id,off,es,h1,by rw[hk id es h2]; exact h2,h3,h4⟩
theorem Tail.fresh {H:View} {u:V} {l:List Int} (h:Tail H u l) {n:Nat} {o:AObj} (hn:H n=.dead):Tail (H.set n o) u l :=
  h.keep fun id es hid=>by
    have:id≠n:=by rintro rfl; rw[hn] at hid; simp at hid
    simp[View.set,this]
theorem Tail.own {H:View} {u:V} {l:List Int} (h:OwnA H u 1 (intsE l)) (hl:l≠[]):Tail H u l:=by
  rcases h with ⟨e,_⟩ | ⟨n,rfl,hn⟩
  · rw[List.map_eq_nil_iff] at e; exact absurd e hl
  · exact ⟨n,0,_,by simp,hn,by simp,by rw[List.drop_zero,List.take_of_length_le (by simp)]⟩
theorem goApp_tail {bytes:Nat} {u:V} {l xs:List Int} {H:View} {K:V→View→Prop} {w:Veil (H,K)} (ho:Tail H u l) (hx:xs≠[])
    (hl:(l.length+xs.length) * bytes < limit) (hl2:l.length+xs.length < limit) (hk:∀ u' H',OwnA H' u' 1 (intsE (l ++ xs))→Left H H' u u'→K u' H'):GoApp 1 bytes u (intsE xs) H K w:=by
  have he:(intsE xs).isEmpty=false:=by cases xs with | nil=>exact absurd rfl hx | cons=>rfl
  obtain ⟨id,off,es,rfl,h2,h3,h4⟩:=ho
  rw[goApp_sl _ _ _ _ _ _ _ _ _ _ he,h2]
  refine ⟨by simp[List.all_map,cellOk],⟨h3,rfl,by simpa using hl,by simpa using hl2⟩,fun m hm=>hk _ _ ?_ ?_⟩
  · refine .inr ⟨m,by simp,?_⟩
    rw[h4]; simp[View.set]
  · intro id' hid ho
    have e:id'≠m:=by rintro rfl; exact hid hm
    have e2:id'≠id:=by rintro rfl; exact ho rfl
    exact ⟨by simp[View.set,e,e2],by simp[owner,Ne.symm e]⟩
def outD (x:List Int × Int × Int):V:=.tup [encI x.1,gi x.2.1,gi x.2.2]
theorem frn_outD {h:Heap} {u:V} {x:List Int × Int × Int} (hu:FrN h u (encI x.1)):FrN h (.tup [u,gi x.2.1,gi x.2.2]) (outD x):=.tup _ _ rfl fun i hi=>by
  match i,hi with
  | 0,_=>exact hu
  | 1,_=>exact .val _
  | 2,_=>exact .val _
theorem Tail.all {H:View} {u:V} {l:List Int} (h:Tail H u l):∃ (id off:Nat) (es:List (List V)),u=.sl id off l.length 1∧H id=.arr 1 es∧off+l.length≤es.length∧∀ j,j < l.length→es.getD (off+j) []=[gi (l.getD j 0)]:=by
  obtain ⟨id,off,es,h1,h2,h3,h4⟩:=h
  refine ⟨id,off,es,h1,h2,h3,fun j hj=>?_⟩
  have h5:=congrArg (fun z=>z[j]?) h4
  simp only[List.getElem?_take,hj,if_true,List.getElem?_drop,List.getElem?_map,List.getElem?_eq_getElem hj,Option.map_some] at h5
  rw[List.getD_eq_getElem?_getD,h5,List.getD_eq_getElem?_getD,List.getElem?_eq_getElem hj]; rfl
theorem Tail.take {H:View} {id off k:Nat} {l:List Int} (h:Tail H (.sl id off k 1) l) {m:Nat} (hm:m≤l.length):Tail H (.sl id off m 1) (l.take m):=by
  obtain ⟨id',off',es,h1,h2,h3,h4⟩:=h
  simp only[V.sl.injEq,and_true] at h1
  obtain ⟨rfl,rfl,rfl⟩:=h1
  refine ⟨id,off,es,by simp; omega,h2,by simp; omega,?_⟩
  have h5:=congrArg (List.take m) h4
  rw[List.take_take,show min m l.length=m by omega] at h5
  rw[show (l.take m).length=m by simp; omega,h5]
  exact List.map_take.symm
theorem sSlice_head {id off k m:Nat} (hm:m≤k):sSlice 1 (.sl id off k 1) none (some (gi m))=some (.sl id off m 1,.none,[]):=by
  simp[sSlice,bound,asNat,hm]
theorem runD_eq (g:Gram) (t:Tab) (w:List Int) (k:Nat) (st rs:List Int) (at_:Nat):runD g t w k st rs at_=(
    if (cellA t (topS st) (aheadT g w at_)).kind=3∧at_=w.length then (rs,(at_:Int),(0:Int))
    else if (cellA t (topS st) (aheadT g w at_)).kind=0∨(cellA t (topS st) (aheadT g w at_)).kind=3∨(cellA t (topS st) (aheadT g w at_)).kind=1∧at_=w.length then ([],(at_:Int),3)
    else match k with
      | 0=>([],(at_:Int),14)
      | k+1 =>
        if (cellA t (topS st) (aheadT g w at_)).kind=1 then runD g t w k (st ++ [(cellA t (topS st) (aheadT g w at_)).n]) rs (at_+1)
        else if st.length≤(ruleD g (cellA t (topS st) (aheadT g w at_)).n).right.length then ([],(at_:Int),3)
        else if gotoA t (topS (st.take (st.length - (ruleD g (cellA t (topS st) (aheadT g w at_)).n).right.length))) (ruleD g (cellA t (topS st) (aheadT g w at_)).n).left = -1 then ([],(at_:Int),3)
        else runD g t w k (st.take (st.length - (ruleD g (cellA t (topS st) (aheadT g w at_)).n).right.length) ++ [gotoA t (topS (st.take (st.length - (ruleD g (cellA t (topS st) (aheadT g w at_)).n).right.length))) (ruleD g (cellA t (topS st) (aheadT g w at_)).n).left])
          (rs ++ [(cellA t (topS st) (aheadT g w at_)).n]) at_):=by
  cases k <;> (conv=>lhs; unfold runD) <;> rfl
theorem topE {es:List (List V)} {off:Nat} {st:List Int} (h:∀ j,j < st.length→es.getD (off+j) []=[gi (st.getD j 0)]) (hs:0 < st.length):es.getD (off+((st.length:Int) - 1).toNat) []=[gi (topS st)]:=by
  have:=h (st.length - 1) (by omega)
  rw[show ((st.length:Int) - 1).toNat=st.length - 1 by omega,this,topS]
theorem aheadT_in {g:Gram} {w:List Int} (hw:∀ x∈w,0≤x∧x < (g.terms.length:Int)) (i:Nat):0≤aheadT g w i∧aheadT g w i≤g.terms.length:=by
  unfold aheadT
  split
  · rename_i h
    have:=hw _ (List.mem_of_getElem? (getD_some (d:=0) h))
    omega
  · omega
theorem plainA_eq (g:Gram) (t:Tab) (w:List Int):plainA g t w=if (wordB g w && rightT g t)=true then runD g t w 2000 [0] [] 0 else ([],0,1):=by
  unfold plainA wordB terB
  rfl
theorem gtw_args (g:Gram) (t:Tab) (w:List Int):∀ v∈[V.agg (encG g),.agg (encTab t),encI w],Tree v:=by
  intro v hv; simp at hv
  rcases hv with rfl | rfl | rfl
  · exact tree_agg _ (encG_tree g)
  · exact tree_agg _ (encTab_tree t)
  · exact encI_tree w
theorem wordB_in {g:Gram} {w:List Int} (h:wordB g w=true):w.length≤60∧∀ x∈w,0≤x∧x < (g.terms.length:Int):=by
  unfold wordB terB at h
  simp only[Bool.and_eq_true,decide_eq_true_eq,List.all_eq_true] at h
  exact ⟨h.1.2,h.2⟩
theorem fitsC_inv {g:Gram} {n:Nat} {c:Cell} (h:fitsC g n c=true):(c.kind=0∨c.kind=3)∨(c.kind=1∧0≤c.n∧c.n < n)∨(c.kind=2∧0≤c.n∧c.n < g.rules.length):=by
  unfold fitsC at h
  split at h
  · rename_i e; exact .inl e
  · split at h
    · rename_i e; simp at h; exact .inr (.inl ⟨e,h⟩)
    · split at h
      · rename_i e; simp at h; exact .inr (.inr ⟨e,h⟩)
      · simp at h
end Gv
