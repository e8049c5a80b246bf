/-
  Part 15 of the proof: what the machine does and what the functions answer.
  Conditions: those that each lemma names.
-/
import Derived.Test.YtkkdjpnkhhlnpaaGreatSGzZN
set_option linter.unusedSimpArgs false
set_option linter.unusedVariables false
set_option maxRecDepth 100000
namespace Gv
open Go Go.Proofs
def B_gerundref16_Rules_0:SC :=
  .seq (.seq (ab [aa 7 6,aa 8 0,aj 9 8,ak 10 .lss 7 9]) <|
  .cond (.tmp 10) (.skip) (.exit 0)) <|
  .seq (.block 1 (.seq (ab [aa 13 0,aa 14 6,av 15 2 13 14,af 16 1 15,ae 17 16,aa 18 1,ao 19 97 [17,18]]) <|
  .cond (.tmp 19) (ab [aa 20 5,aa 21 0,aa 22 6,av 23 2 21 22,af 24 0 23,ae 25 24,((some 26),.op (.bslice 1 1 [(.val (.int .i64 0))] [(0,(.tmp 25))])),((some 27),.op (.app 1 8 (.tmp 20) (.tmp 26))),aa 5 27]) (.skip))) <|
  ab [aa 11 6,ah 12 .add 11 1,aa 6 12]
def S_gerundref16_Rules:SF:=⟨.seq (ab [((some 4),.op (.mov (.val (.emp 1))))]) <|
  .seq (ab [((some 5),.op (.mov (.val (.emp 1))))]) <|
  .seq (.seq (ab [ai 6 0]) <|
  .block 0 (.loop B_gerundref16_Rules_0)) <|
  .seq (ab [aa 28 5,aa 4 28]) <|
  .ret,
  [.tmp 4],29⟩
theorem S_gerundref16_Rules_ok:compF Tryz.prog 51 []=some S_gerundref16_Rules:=by kernel_rfl
def S_gerundref17_Settle:SF:=⟨.seq (ab [aC 3 0,ai 6 0]) <|
  .seq (.seq (.region false [⟨none,[au 11 4 3,ao 12 66 [11],aB 13 12,aa 14 13]⟩,⟨(some (14,false)),[aa 15 1,ah 16 .lss 15 0]⟩,⟨none,[ay 17 14 16,aa 18 17]⟩,⟨(some (18,false)),[aa 19 1,af 20 2 3,ae 21 20,aj 22 21,ak 23 .geq 19 22]⟩,⟨none,[ay 24 18 23,aa 25 24]⟩,⟨(some (25,false)),[aa 26 2,ah 27 .lss 26 0]⟩,⟨none,[ay 28 25 27,aa 29 28]⟩,⟨(some (29,false)),[aa 30 2,af 31 0 3,ae 32 31,aj 33 32,ak 34 .gtr 30 33]⟩,⟨none,[ay 35 29 34]⟩]) <|
  .cond (.tmp 35) (.seq (ab [ai 6 0]) <|
  .ret) (.skip)) <|
  .seq (ab [af 36 2 3,ae 37 36,aa 38 1,av 39 3 37 38,af 40 2 39,ae 41 40,aa 7 41]) <|
  .seq (.seq (.region false [⟨none,[aa 42 2,af 43 0 3,ae 44 43,aj 45 44,ak 46 .eql 42 45,aa 47 46]⟩,⟨(some (47,false)),[aa 48 7,ah 49 .lss 48 0]⟩,⟨none,[ay 50 47 49,aa 51 50]⟩,⟨(some (51,false)),[af 52 0 3,ae 53 52,aa 54 7,av 55 3 53 54,af 56 1 55,ae 57 56,ah 58 .eql 57 0]⟩,⟨none,[ay 59 51 58,aa 60 59]⟩,⟨(some (60,false)),[af 61 0 3,ae 62 61,aa 63 2,av 64 3 62 63,af 65 1 64,ae 66 65,ah 67 .eql 66 0]⟩,⟨none,[ay 68 60 67]⟩]) <|
  .cond (.tmp 68) (.seq (ab [ai 6 4]) <|
  .ret) (.skip)) <|
  .seq (ab [af 69 0 3,ae 70 69,aa 71 7,av 72 3 70 71,af 73 1 72,ae 74 73,af 75 0 3,ae 76 75,aa 77 2,av 78 3 76 77,af 79 1 78,ae 80 79,aa 8 74,aa 9 80]) <|
  .seq (ab [af 81 0 3,ae 82 81,aa 83 2,av 84 3 82 83,af 85 2 84,ae 86 85,aa 10 86]) <|
  .seq (.block 0 (.seq (.region false [⟨none,[aa 88 8,aa 89 9,ak 90 .gtr 88 89,aa 91 90]⟩,⟨(some (91,false)),[aa 92 8,aa 93 9,ak 94 .eql 92 93,aa 95 94]⟩,⟨(some (95,true)),[aa 96 10,ah 97 .eql 96 1]⟩,⟨(some (91,false)),[az 98 95 97]⟩,⟨none,[ay 99 91 98,aa 87 99]⟩]) <|
  .cond (.tmp 87) (.seq (ab [ai 6 1]) <|
  .ret) (.seq (.region false [⟨none,[aa 101 8,aa 102 9,ak 103 .lss 101 102,aa 104 103]⟩,⟨(some (104,false)),[aa 105 10,ah 106 .eql 105 2]⟩,⟨none,[ay 107 104 106,aa 100 107]⟩]) <|
  .cond (.tmp 100) (.seq (ab [ai 6 2]) <|
  .ret) (.skip)))) <|
  .seq (ab [ai 6 3]) <|
  .ret,
  [.tmp 6],108⟩
theorem S_gerundref17_Settle_ok:compF Tryz.prog 49 [3]=some S_gerundref17_Settle:=by kernel_rfl
def B_gerundref17_shift_0:SC :=
  .seq (.seq (ab [aa 9 7,af 10 1 4,ae 11 10,aj 12 11,ak 13 .lss 9 12]) <|
  .cond (.tmp 13) (.skip) (.exit 0)) <|
  .seq (.block 1 (.seq (ab [af 16 1 4,ae 17 16,aa 18 7,av 19 2 17 18,af 20 0 19,ae 21 20,aa 22 2,ak 23 .eql 21 22]) <|
  .cond (.tmp 23) (.seq (ab [af 24 1 4,ae 25 24,aa 26 7,av 27 2 25 26,af 28 1 27,ae 29 28,((some 30),.op (.build [(.val (.int .i64 0)),(.val (.int .i64 0))] [(0,1,(.val (.val (.int .i64 1)))),(1,1,(.tmp 29))])),(none,.op (.store 2 (.tmp 6) (.tmp 30)))]) <|
  .ret) (.skip))) <|
  ab [aa 14 7,ah 15 .add 14 1,aa 7 15]
def B_gerundref17_shift_1:SC :=
  .seq (.seq (ab [aa 31 8,af 32 0 4,ae 33 32,aj 34 33,ak 35 .lss 31 34]) <|
  .cond (.tmp 35) (.skip) (.exit 2)) <|
  .seq (.block 3 (.seq (.region false [⟨none,[aa 38 2,af 39 0 3,ae 40 39,aj 41 40,ak 42 .eql 38 41,aa 43 42]⟩,⟨(some (43,true)),[af 44 0 4,ae 45 44,aa 46 8,av 47 2 45 46,au 48 2 47,((some 49),.op (.build [(.val (.int .i64 0)),(.val (.int .i64 0))] [(0,1,(.val (.val (.int .i64 (-1))))),(1,1,(.val (.val (.int .i64 1))))])),((some 50),.op (.old (.binOp .eql 55 (.tmp 48) (.tmp 49) 55) 4))]⟩,⟨none,[az 51 43 50]⟩]) <|
  .cond (.tmp 51) (.seq (ab [((some 52),.op (.build [(.val (.int .i64 0)),(.val (.int .i64 0))] [(0,1,(.val (.val (.int .i64 3))))])),(none,.op (.store 2 (.tmp 6) (.tmp 52)))]) <|
  .ret) (.skip))) <|
  ab [aa 36 8,ah 37 .add 36 1,aa 8 37]
def S_gerundref17_shift:SF:=⟨.seq (ab [aC 3 0,aC 4 1,((some 6),.op (.alloc [(.val (.int .i64 0)),(.val (.int .i64 0))]))]) <|
  .seq (.seq (ab [ai 7 0]) <|
  .block 0 (.loop B_gerundref17_shift_0)) <|
  .seq (.seq (ab [ai 8 0]) <|
  .block 2 (.loop B_gerundref17_shift_1)) <|
  .seq (ab [((some 53),.op (.build [(.val (.int .i64 0)),(.val (.int .i64 0))] [])),(none,.op (.store 2 (.tmp 6) (.tmp 53)))]) <|
  .ret,
  [.cell 6 (some 2)],54⟩
theorem S_gerundref17_shift_ok:compF Tryz.prog 101 [3,4]=some S_gerundref17_shift:=by kernel_rfl
theorem pn_Rules16 (l:List PLook) (hl:l.length≤10000) (n:Int):PNew Tryz.prog 51 [.fro (lkE l),gi n] (encI (rulesD l n)):=by
  refine PNew.of (by
    intro v hv; simp at hv
    rcases hv with rfl | rfl
    · exact lk_tree _
    · exact .val _) ?_
  refine MCall.of mixed S_gerundref16_Rules_ok ?_
  simp (disch:=omega) only [↓wr,wq,oneV,Nat.reduceAdd,Nat.reduceLeDiff,S_gerundref16_Rules,lkE]
  refine LoopG.up l.length (fun i T H'=>∃ u:V,OwnA H' u 1 (intsE (rulesD (l.take i) n))∧T 0=.fro (lkE l)∧T 1=gi n∧T 5=u∧T 6=gi i) ⟨.emp 1,.nil,rfl,rfl,rfl,rfl⟩ ?_
  rintro i k T H hk ⟨u,ho,t0,t1,t5,t6⟩
  simp (disch:=omega) only [↓wr,↓reduceIte,wq,intOp,goI,Nat.reduceEqDiff,reduceCtorEq,B_gerundref16_Rules_0,t0,t6,lkE]
  refine GoB.dec (fun hc=>?_) (fun hc=>?_)
  · have hx:l[i]?=some (l[i]'(by omega)):=List.getElem?_eq_getElem (by omega)
    generalize l[i]'(by omega)=x at hx
    have hft:rulesD (l.take (i+1)) n=if hasB x.set n=true then rulesD (l.take i) n ++ [x.rule] else rulesD (l.take i) n:=by
      unfold rulesD
      rw[filt_take hx]
      split <;> simp
    have hfl:(rulesD (l.take i) n).length≤i:=by
      unfold rulesD
      have:=List.length_filter_le (fun x:PLook=>hasB x.set n) (l.take i)
      simp only[List.length_map,List.length_take] at this ⊢
      omega
    simp (disch:=omega) only [↓wr,↓reduceIte,wq,Nat.reduceEqDiff,Nat.reduceAdd,Nat.reduceLT,reduceCtorEq,t0,t1,t6,lkE,List.getElem?_map,hx,encLk]
    refine CallG.pure (pc_Has03 x.set n) (by kernel_rfl) ?_
    simp (disch:=omega) only [↓wr,↓reduceIte,wq]
    refine GoB.split (fun he=>?_) (fun he=>?_)
    · simp (disch:=omega) only [↓wr,↓reduceIte,wq,fillE,Nat.reduceEqDiff,Nat.reduceAdd,Nat.reduceLT,reduceCtorEq,t0,t5,t6,lkE,List.getElem?_map,hx,encLk]
      intro q hq
      simp (disch:=omega) only [↓wr,↓reduceIte,wq,Nat.reduceEqDiff,elemsOf_new]
      refine goApp_all (ho.fresh hq) (by simp[cellOk]) (by unfold limit; simp; omega) (by unfold limit; simp; omega) ?_
      intro u2 H2 o2 _
      simp (disch:=omega) only [↓wr,↓reduceIte,wq,intOp,Nat.reduceEqDiff,reduceCtorEq,t6]
      rw[if_pos he] at hft
      exact up_next hk (by omega) ⟨u2,by rw[hft]; simpa using o2,t0,t1,rfl,rfl⟩
    · simp (disch:=omega) only [↓wr,↓reduceIte,wq,intOp,Nat.reduceEqDiff,reduceCtorEq,t5,t6]
      rw[if_neg (by rw[he]; simp)] at hft
      exact up_next hk (by omega) ⟨u,by rw[hft]; exact ho,t0,t1,t5,rfl⟩
  · rw[List.take_of_length_le (by omega)] at ho
    simp (disch:=omega) only [↓wr,↓reduceIte,wq,Nat.reduceEqDiff,reduceCtorEq,t5]
    rintro h' rfl
    exact frn_ints ho
theorem levelG_at {g:Gram} {t:Int} {x:Term} (h:g.terms[t.toNat]?=some x):levelG g t=x.level∧assocG g t=x.assoc:=by
  simp[levelG,assocG,h]
set_option maxHeartbeats 8000000 in
theorem pc_Settle17 (g:Gram) (hg:g.Ok) (rule term:Int):PCall Tryz.prog 49 [.agg (encG g),gi rule,gi term] (gi (settleD g rule term)):=by
  refine PCall.val (by
    intro v hv; simp at hv
    rcases hv with rfl | rfl | rfl
    · exact tree_agg _ (encG_tree g)
    · exact .val _
    · exact .val _) fun H=>?_
  have hr9:=pc_Right09 g hg
  refine MCall.of mixed S_gerundref17_Settle_ok ?_
  simp only[encG,encS] at hr9
  simp (disch:=omega) only [↓wr,↓reduceIte,wq,oneV,Nat.reduceEqDiff,Nat.reduceAdd,Nat.reduceLeDiff,S_gerundref17_Settle,encG,encS]
  refine CallG.pure hr9 (by kernel_rfl) ?_
  have bad:right09 g=false∨rule < 0∨(g.rules.length:Int)≤rule∨term < 0∨(g.terms.length:Int) < term→settleD g rule term=0:=fun h=>by rw[settleD,if_pos h]
  cases hr:right09 g with
  | false =>
    simp (disch:=omega) only [↓wr,↓reduceIte,wq,Nat.reduceEqDiff,reduceCtorEq]
    rw[bad (.inl hr)]
  | true =>
    have hf:=right09_fine hr
    simp (disch:=omega) only [↓wr,↓reduceIte,wq,intOp,Nat.reduceEqDiff]
    refine GoB.dec (fun h1=>?_) (fun h1=>?_)
    · simp (disch:=omega) only [↓wr,↓reduceIte,wq,Nat.reduceEqDiff,reduceCtorEq]
      rw[bad (.inr (by omega))]
    simp (disch:=omega) only [↓wr,↓reduceIte,wq,intOp,goI,Nat.reduceEqDiff,Nat.reduceAdd,Nat.reduceLT]
    refine GoB.dec (fun h2=>?_) (fun h2=>?_)
    · simp (disch:=omega) only [↓wr,↓reduceIte,wq,Nat.reduceEqDiff,reduceCtorEq]
      rw[bad (.inr (by omega))]
    simp (disch:=omega) only [↓wr,↓reduceIte,wq,intOp,Nat.reduceEqDiff]
    refine GoB.dec (fun h3=>?_) (fun h3=>?_)
    · simp (disch:=omega) only [↓wr,↓reduceIte,wq,Nat.reduceEqDiff,reduceCtorEq]
      rw[bad (.inr (by omega))]
    simp (disch:=omega) only [↓wr,↓reduceIte,wq,intOp,goI,Nat.reduceEqDiff,Nat.reduceAdd,Nat.reduceLT]
    refine GoB.dec (fun h4=>?_) (fun h4=>?_)
    · simp (disch:=omega) only [↓wr,↓reduceIte,wq,reduceCtorEq]
      rw[bad (.inr (by omega))]
    have hR:g.rules[rule.toNat]?=some (ruleD g rule):=by unfold ruleD; exact getD_some (by omega)
    have hP:=hf.prec _ (List.mem_of_getElem? hR)
    have e0:settleD g rule term=if term=g.terms.length∨(ruleD g rule).prec < 0∨levelG g (ruleD g rule).prec=0∨levelG g term=0 then 4
        else if levelG g term < levelG g (ruleD g rule).prec∨levelG g (ruleD g rule).prec=levelG g term∧assocG g term=1 then 1
        else if levelG g (ruleD g rule).prec < levelG g term∨assocG g term=2 then 2 else 3:=by
      rw[settleD,if_neg (by rw[hr]; simp; omega)]
    rw[e0]
    clear e0 bad
    generalize ruleD g rule=R at hR hP
    simp (disch:=omega) only [↓wr,↓reduceIte,wq,intOp,goI,Nat.reduceEqDiff,Nat.reduceAdd,Nat.reduceLT,List.getElem?_map,hR,encR]
    refine GoB.eq (fun h5=>?_) (fun h5=>?_)
    · simp (disch:=omega) only [↓wr,↓reduceIte,wq,Nat.reduceEqDiff,reduceCtorEq]
      rw[if_pos (.inl h5)]
    simp (disch:=omega) only [↓wr,↓reduceIte,wq,intOp,Nat.reduceEqDiff]
    refine GoB.dec (fun h6=>?_) (fun h6=>?_)
    · simp (disch:=omega) only [↓wr,↓reduceIte,wq,Nat.reduceEqDiff,reduceCtorEq]
      rw[if_pos (.inr (.inl h6))]
    have hp:g.terms[R.prec.toNat]?=some (g.terms[R.prec.toNat]'(by omega)):=List.getElem?_eq_getElem (by omega)
    have hq:g.terms[term.toNat]?=some (g.terms[term.toNat]'(by omega)):=List.getElem?_eq_getElem (by omega)
    generalize g.terms[R.prec.toNat]'(by omega)=p at hp
    generalize g.terms[term.toNat]'(by omega)=q at hq
    obtain ⟨l1,_⟩:=levelG_at hp
    obtain ⟨l2,l3⟩:=levelG_at hq
    rw[l1,l2,l3]
    simp (disch:=omega) only [↓wr,↓reduceIte,wq,intOp,Nat.reduceEqDiff,Nat.reduceAdd,Nat.reduceLT,List.getElem?_map,hp,encT]
    refine GoB.eq (fun h7=>?_) (fun h7=>?_)
    · simp (disch:=omega) only [↓wr,↓reduceIte,wq,Nat.reduceEqDiff,reduceCtorEq]
      rw[if_pos (.inr (.inr (.inl h7)))]
    simp (disch:=omega) only [↓wr,↓reduceIte,wq,intOp,Nat.reduceEqDiff,Nat.reduceAdd,Nat.reduceLT,List.getElem?_map,hq,encT]
    refine GoB.eq (fun h8=>?_) (fun h8=>?_)
    · simp (disch:=omega) only [↓wr,↓reduceIte,wq,reduceCtorEq]
      rw[if_pos (.inr (.inr (.inr h8)))]
    rw[if_neg (by omega)]
    simp (disch:=omega) only [↓wr,↓reduceIte,wq,intOp,Nat.reduceEqDiff,Nat.reduceAdd,Nat.reduceLT,List.getElem?_map,hp,hq,encT]
    refine GoB.dec (fun h9=>?_) (fun h9=>?_)
    · simp (disch:=omega) only [↓wr,↓reduceIte,wq,Nat.reduceEqDiff,reduceCtorEq]
      rw[if_pos (by omega)]
    simp (disch:=omega) only [↓wr,↓reduceIte,wq,intOp,Nat.reduceEqDiff]
    refine GoB.eq (fun h10=>?_) (fun h10=>?_)
    · simp (disch:=omega) only [↓wr,↓reduceIte,wq,intOp,Nat.reduceEqDiff]
      refine GoB.eq (fun h11=>?_) (fun h11=>?_)
      · simp (disch:=omega) only [↓wr,↓reduceIte,wq,reduceCtorEq]
        rw[if_pos (by omega)]
      · simp (disch:=omega) only [↓wr,↓reduceIte,wq,intOp,Nat.reduceEqDiff]
        rw[if_neg (by omega)]
        refine GoB.dec (fun h12=>?_) (fun h12=>?_)
        · simp (disch:=omega) only [↓wr,↓reduceIte,wq,Nat.reduceEqDiff,reduceCtorEq]
          rw[if_pos (by omega)]
        simp (disch:=omega) only [↓wr,↓reduceIte,wq,intOp,Nat.reduceEqDiff]
        refine GoB.eq (fun h13=>?_) (fun h13=>?_)
        · simp (disch:=omega) only [↓wr,↓reduceIte,wq,reduceCtorEq]
          rw[if_pos (by omega)]
        · simp (disch:=omega) only [↓wr,↓reduceIte,wq,Nat.reduceEqDiff,reduceCtorEq]
          rw[if_neg (by omega)]
    · simp (disch:=omega) only [↓wr,↓reduceIte,wq,intOp,Nat.reduceEqDiff]
      rw[if_neg (by omega)]
      refine GoB.dec (fun h12=>?_) (fun h12=>?_)
      · simp (disch:=omega) only [↓wr,↓reduceIte,wq,Nat.reduceEqDiff,reduceCtorEq]
        rw[if_pos (by omega)]
      simp (disch:=omega) only [↓wr,↓reduceIte,wq,intOp,Nat.reduceEqDiff]
      refine GoB.eq (fun h13=>?_) (fun h13=>?_)
      · simp (disch:=omega) only [↓wr,↓reduceIte,wq,reduceCtorEq]
        rw[if_pos (by omega)]
      · simp (disch:=omega) only [↓wr,↓reduceIte,wq,Nat.reduceEqDiff,reduceCtorEq]
        rw[if_neg (by omega)]
theorem edgeC_take:∀ (l:List PEdg) (s:Int) (i:Nat),(∀ j e,j < i→l[j]?=some e→e.sym≠s)→(∀ e,l[i]?=some e→e.sym=s→edgeC l s=some ⟨1,e.to⟩)∧(l.length≤i→edgeC l s=none)
  | [],s,i,_=>⟨fun e h=>by simp at h,fun _=>rfl⟩
  | x :: l,s,0,_=>⟨fun e h hs=>by simp at h; subst h; simp[edgeC,hs],fun h=>by simp at h⟩
  | x :: l,s,i+1,h=>by
    have h0:=h 0 x (by omega) rfl
    obtain ⟨h1,h2⟩:=edgeC_take l s i fun j e hj he=>h (j+1) e (by omega) (by simpa using he)
    refine ⟨fun e he hs=>?_,fun hl=>?_⟩
    · rw[edgeC,if_neg h0]; exact h1 e (by simpa using he) hs
    · rw[edgeC,if_neg h0]; exact h2 (by simpa using hl)
set_option maxHeartbeats 8000000 in
theorem pc_shift17 (g:Gram) (hg:g.Ok) (s:StP) (hs:Short s.edg∧Short s.ker) (t:Int):PCall Tryz.prog 101 [.agg (encG g),.agg (encSt s),gi t] (.agg (encCell (shiftD g s t))):=by
  obtain ⟨hs1,hs2⟩:=hs
  have hT:=hg.terms
  unfold Short at hs1 hs2 hT
  refine PCall.tree (by
    intro v hv; simp at hv
    rcases hv with rfl | rfl | rfl
    · exact tree_agg _ (encG_tree g)
    · exact tree_agg _ (encSt_tree s)
    · exact .val _) (tree_agg _ (encCell_tree _)) fun H=>?_
  refine MCall.of mixed S_gerundref17_shift_ok ?_
  simp (disch:=omega) only [↓wr,↓reduceIte,wq,oneV,Nat.reduceEqDiff,Nat.reduceAdd,Nat.reduceLeDiff,S_gerundref17_shift]
  refine ⟨rfl,rfl,fun b hb=>?_⟩
  refine LoopG.up s.edg.length (fun i T H'=>(∀ j e,j < i→s.edg[j]?=some e→e.sym≠t)∧H' b=.arr 2 [[gi 0,gi 0]]∧T 2=gi t∧T 3=.fptr (encG g) 0∧T 4=.fptr (encSt s) 0∧T 6=.ptr b 0 0∧T 7=gi i) ⟨fun j e h=>by omega,by simp[View.set],rfl,rfl,rfl,rfl,rfl⟩ ?_
  rintro i k T H hk ⟨hall,hb,t2,t3,t4,t6,t7⟩
  obtain ⟨f1,f2⟩:=edgeC_take s.edg t i hall
  simp (disch:=omega) only [↓wr,↓reduceIte,wq,intOp,goI,Nat.reduceEqDiff,Nat.reduceAdd,Nat.reduceLT,B_gerundref17_shift_0,t4,t7,encSt,pdE]
  refine GoB.dec (fun hc=>?_) (fun hc=>?_)
  · have hE:s.edg[i]?=some (s.edg[i]'(by omega)):=List.getElem?_eq_getElem (by omega)
    generalize s.edg[i]'(by omega)=E at hE
    simp (disch:=omega) only [↓wr,↓reduceIte,wq,intOp,Nat.reduceEqDiff,Nat.reduceAdd,Nat.reduceLT,t2,t4,t7,encSt,pdE,List.getElem?_map,hE,encPd]
    refine GoB.eq (fun he=>?_) (fun he=>?_)
    · simp (disch:=omega) only [↓wr,↓reduceIte,wq,intOp,splice,sBuild,Nat.reduceEqDiff,Nat.reduceAdd,Nat.reduceLT,Nat.reduceLeDiff,reduceCtorEq,t4,t6,t7,encSt,pdE,List.getElem?_map,hE,encPd,hb]
      rw[shiftD,f1 E hE he]
      rfl
    · simp (disch:=omega) only [↓wr,↓reduceIte,wq,intOp,Nat.reduceEqDiff,reduceCtorEq,t6,t7]
      refine up_next hk (by omega) ⟨fun j e hj hje=>?_,hb,t2,t3,t4,t6,rfl⟩
      rcases Nat.lt_or_ge j i with h | h
      · exact hall j e h hje
      · have:j=i:=by omega
        subst this
        rw[hE] at hje; simp at hje; subst hje; exact he
  have hnone:=f2 (by omega)
  simp (disch:=omega) only [↓wr,↓reduceIte,wq,Nat.reduceEqDiff,reduceCtorEq,t6]
  refine LoopG.up s.ker.length (fun i T H'=>(t=g.terms.length→∀ j x,j < i→s.ker[j]?=some x→x≠(⟨-1,1⟩:LrI))∧H' b=.arr 2 [[gi 0,gi 0]]∧T 2=gi t∧T 3=.fptr (encG g) 0∧T 4=.fptr (encSt s) 0∧T 6=.ptr b 0 0∧T 8=gi i) ⟨fun _ j e h=>by omega,hb,t2,t3,t4,t6,rfl⟩ ?_
  clear hall hb t2 t3 t4 t6 t7 f1 f2
  rintro i k2 T2 H2 hk2 ⟨hall,hb,t2,t3,t4,t6,t8⟩
  simp (disch:=omega) only [↓wr,↓reduceIte,wq,intOp,goI,splice,sBuild,Nat.reduceEqDiff,Nat.reduceAdd,Nat.reduceLT,Int.reduceNeg,B_gerundref17_shift_1,t4,t8,encSt,lrE]
  refine GoB.dec (fun hc2=>?_) (fun hc2=>?_)
  · have hx:s.ker[i]?=some (s.ker[i]'(by omega)):=List.getElem?_eq_getElem (by omega)
    generalize s.ker[i]'(by omega)=x at hx
    simp (disch:=omega) only [↓wr,↓reduceIte,wq,intOp,goI,Nat.reduceEqDiff,Nat.reduceAdd,Nat.reduceLT,Int.reduceNeg,t2,t3,encG]
    refine GoB.eq (fun ht=>?_) (fun ht=>?_)
    · simp (disch:=omega) only [↓wr,↓reduceIte,wq,splice,sBuild,Nat.reduceEqDiff,Nat.reduceAdd,Nat.reduceLT,Nat.reduceLeDiff,Int.reduceNeg,t4,t8,encSt,lrE,List.getElem?_map,hx,encLr]
      refine oldStructEq (xs:=#[.int .i64 x.rule,.int .i64 x.dot]) (ys:=#[.int .i64 (-1),.int .i64 1]) Tryz.underlying55 (by kernel_rfl) (by kernel_rfl) ?_ ?_ (fields_lr x ⟨-1,1⟩) (.inl ⟨rfl,rfl⟩) ?_
      · rfl
      · rfl
      rw[lr_eq0]
      simp (disch:=omega) only [↓wr,↓reduceIte,wq,Nat.reduceEqDiff,Int.reduceNeg]
      refine GoB.dec (fun he=>?_) (fun he=>?_)
      · simp (disch:=omega) only [↓wr,↓reduceIte,wq,intOp,splice,sBuild,Nat.reduceEqDiff,Nat.reduceAdd,Nat.reduceLT,Nat.reduceLeDiff,Int.reduceNeg,reduceCtorEq,t6,t8,hb]
        rw[shiftD,hnone]
        simp only
        rw[if_pos ⟨ht,he ▸ List.mem_of_getElem? hx⟩]
        rfl
      · simp (disch:=omega) only [↓wr,↓reduceIte,wq,intOp,Nat.reduceEqDiff,Int.reduceNeg,reduceCtorEq,t6,t8]
        refine up_next hk2 (by omega) ⟨fun _ j e hj hje=>?_,hb,t2,t3,t4,t6,rfl⟩
        rcases Nat.lt_or_ge j i with h | h
        · exact hall ht j e h hje
        · have:j=i:=by omega
          subst this
          rw[hx] at hje; simp at hje; subst hje; exact he
    · simp (disch:=omega) only [↓wr,↓reduceIte,wq,intOp,Nat.reduceEqDiff,Int.reduceNeg,reduceCtorEq,t6,t8]
      exact up_next hk2 (by omega) ⟨fun h=>absurd h ht,hb,t2,t3,t4,t6,rfl⟩
  · simp (disch:=omega) only [↓wr,↓reduceIte,wq,Nat.reduceEqDiff,Nat.reduceAdd,Nat.reduceLT,Nat.reduceLeDiff,reduceCtorEq,t6,hb]
    rw[shiftD,hnone]
    simp only
    rw[if_neg]
    · rfl
    · rintro ⟨h1,h2⟩
      obtain ⟨j,hj,e⟩:=List.mem_iff_getElem.1 h2
      exact hall h1 j _ (by omega) (by rw[List.getElem?_eq_getElem hj,e]) rfl
def encCf (c:PConf):List V:=[gi c.state,gi c.term,gi c.kind,gi c.rule,gi c.other]
def cfE (l:List PConf):List (List V):=l.map encCf
theorem cfE_len (l:List PConf):(cfE l).length=l.length:=by simp[cfE]
theorem frn_cf {h:Heap} {u:V} {l:List PConf} (ho:OwnA h.view u 5 (cfE l)):FrN h u (.fro (cfE l)):=by
  refine FrN.own ho rfl (fun i _=>rfl) (fun i j hi hj=>?_)
  rw[cfE_len] at hi
  have e:(cfE l).getD i []=encCf l[i]:=by simp[cfE,List.getD_eq_getElem?_getD,hi]
  rw[e] at hj ⊢
  match j,hj with
  | 0,_=>exact .val _
  | 1,_=>exact .val _
  | 2,_=>exact .val _
  | 3,_=>exact .val _
  | 4,_=>exact .val _
theorem frn_cell {h:Heap} {u v:V} {c:Cell} (hu:FrN h u v):FrN h (.tup [.agg [gi c.kind,gi c.n],u]) (.tup [.agg (encCell c),v]):=.tup _ _ rfl fun i hi=>by
  match i,hi with
  | 0,_=>exact frn_two (.val _) (.val _)
  | 1,_=>exact hu
def B_gerundref17_cell_0:SC :=
  .seq (.seq (ab [aa 29 15,aa 30 13,aj 31 30,ak 32 .lss 29 31]) <|
  .cond (.tmp 32) (.skip) (.exit 0)) <|
  .seq (.block 1 (ab [aa 35 14,aa 36 3,aa 37 4,aa 38 13,aa 39 15,av 40 1 38 39,ae 41 40,aa 42 13,((some 43),.op (.idx 1 (.tmp 42) (.val (.val (.int .i64 0))))),ae 44 43,((some 45),.op (.build [(.val (.int .i64 0)),(.val (.int .i64 0)),(.val (.int .i64 0)),(.val (.int .i64 0)),(.val (.int .i64 0))] [(0,1,(.tmp 36)),(1,1,(.tmp 37)),(2,1,(.val (.val (.int .i64 5)))),(3,1,(.tmp 41)),(4,1,(.tmp 44))])),((some 46),.op (.bslice 1 5 [(.val (.int .i64 0)),(.val (.int .i64 0)),(.val (.int .i64 0)),(.val (.int .i64 0)),(.val (.int .i64 0))] [(0,(.tmp 45))])),((some 47),.op (.app 5 40 (.tmp 35) (.tmp 46))),aa 14 47])) <|
  ab [aa 33 15,ah 34 .add 33 1,aa 15 34]
def S_gerundref17_cell:SF:=⟨.seq (ab [aC 5 0,aC 6 1,((some 10),.op (.alloc [(.val (.int .i64 0)),(.val (.int .i64 0))])),((some 11),.op (.mov (.val (.emp 1))))]) <|
  .seq (ab [au 18 4 5,au 19 2 6,aa 20 4,ao 21 101 [18,19,20],((some 12),.op (.alloc [(.val (.int .i64 0)),(.val (.int .i64 0))])),(none,.op (.store 2 (.tmp 12) (.tmp 21)))]) <|
  .seq (ab [aa 22 2,aa 23 4,ao 24 51 [22,23],aa 13 24]) <|
  .seq (.seq (ab [aa 25 13,aj 26 25,ah 27 .eql 26 0]) <|
  .cond (.tmp 27) (.seq (ab [au 28 2 12,(none,.op (.store 2 (.tmp 10) (.tmp 28))),((some 11),.op (.mov (.val (.emp 1))))]) <|
  .ret) (.skip)) <|
  .seq (ab [((some 14),.op (.mov (.val (.emp 1))))]) <|
  .seq (.seq (ab [ai 15 1]) <|
  .block 0 (.loop B_gerundref17_cell_0)) <|
  .seq (ab [aa 48 13,((some 49),.op (.idx 1 (.tmp 48) (.val (.val (.int .i64 0))))),ae 50 49,((some 51),.op (.build [(.val (.int .i64 0)),(.val (.int .i64 0))] [(0,1,(.val (.val (.int .i64 2)))),(1,1,(.tmp 50))])),((some 16),.op (.alloc [(.val (.int .i64 0)),(.val (.int .i64 0))])),(none,.op (.store 2 (.tmp 16) (.tmp 51)))]) <|
  .seq (.seq (ab [af 52 0 12,ae 53 52,ah 54 .eql 53 0]) <|
  .cond (.tmp 54) (.seq (ab [au 55 2 16,aa 56 14,(none,.op (.store 2 (.tmp 10) (.tmp 55))),aa 11 56]) <|
  .ret) (.skip)) <|
  .seq (ab [au 57 4 5,aa 58 13,((some 59),.op (.idx 1 (.tmp 58) (.val (.val (.int .i64 0))))),ae 60 59,aa 61 4,ao 62 49 [57,60,61],aa 17 62]) <|
  .seq (ab [aa 63 14,aa 64 3,aa 65 4,aa 66 17,aa 67 13,((some 68),.op (.idx 1 (.tmp 67) (.val (.val (.int .i64 0))))),ae 69 68,((some 70),.op (.build [(.val (.int .i64 0)),(.val (.int .i64 0)),(.val (.int .i64 0)),(.val (.int .i64 0)),(.val (.int .i64 0))] [(0,1,(.tmp 64)),(1,1,(.tmp 65)),(2,1,(.tmp 66)),(3,1,(.tmp 69)),(4,1,(.val (.val (.int .i64 (-1)))))])),((some 71),.op (.bslice 1 5 [(.val (.int .i64 0)),(.val (.int .i64 0)),(.val (.int .i64 0)),(.val (.int .i64 0)),(.val (.int .i64 0))] [(0,(.tmp 70))])),((some 72),.op (.app 5 40 (.tmp 63) (.tmp 71))),aa 14 72]) <|
  .seq (.seq (ab [aa 73 17]) <|
  .block 2 (.seq (ab [ah 75 .eql 73 1,aa 74 75]) <|
  .cond (.tmp 74) (.seq (ab [au 76 2 16,aa 77 14,(none,.op (.store 2 (.tmp 10) (.tmp 76))),aa 11 77]) <|
  .ret) (.seq (ab [ah 79 .eql 73 3,aa 78 79]) <|
  .cond (.tmp 78) (.seq (ab [((some 80),.op (.build [(.val (.int .i64 0)),(.val (.int .i64 0))] [])),aa 81 14,(none,.op (.store 2 (.tmp 10) (.tmp 80))),aa 11 81]) <|
  .ret) (.skip)))) <|
  .seq (ab [au 82 2 12,aa 83 14,(none,.op (.store 2 (.tmp 10) (.tmp 82))),aa 11 83]) <|
  .ret,
  [.cell 10 (some 2),.tmp 11],84⟩
theorem S_gerundref17_cell_ok:compF Tryz.prog 54 [5,6]=some S_gerundref17_cell:=by kernel_rfl
theorem rulesD_len (l:List PLook) (n:Int):(rulesD l n).length≤l.length:=by
  unfold rulesD; rw[List.length_map]; exact List.length_filter_le _ _
set_option maxHeartbeats 16000000 in
theorem pn_cell17 (g:Gram) (hg:g.Ok) (s:StP) (hs:Short s.edg∧Short s.ker) (l:List PLook) (hl:l.length≤10000) (st t:Int):PNew Tryz.prog 54 [.agg (encG g),.agg (encSt s),.fro (lkE l),gi st,gi t] (.tup [.agg (encCell (cellTb g s l st t).1),.fro (cfE (cellTb g s l st t).2)]):=by
  refine PNew.of (by
    intro v hv; simp at hv
    rcases hv with rfl | rfl | rfl | rfl | rfl
    · exact tree_agg _ (encG_tree g)
    · exact tree_agg _ (encSt_tree s)
    · exact lk_tree _
    · exact .val _
    · exact .val _) ?_
  have hsh:=pc_shift17 g hg s hs t
  have hru:=(pn_Rules16 l hl t).pure
  have hrl:=rulesD_len l t
  refine MCall.of mixed S_gerundref17_cell_ok ?_
  simp only[encG,encS,encSt] at hsh
  simp (disch:=omega) only [↓wr,↓reduceIte,wq,oneV,Nat.reduceEqDiff,Nat.reduceAdd,Nat.reduceLeDiff,Int.reduceNeg,S_gerundref17_cell,encG,encS,encSt]
  intro b10
  refine CallG.pure hsh (by kernel_rfl) ?_
  unfold cellTb
  generalize shiftD g s t=x
  have o1:=Owns.nil.new (n:=b10) (H:=fun _=>AObj.dead) rfl 2 [[gi 0,gi 0]]
  simp (disch:=omega) only [↓wr,↓reduceIte,wq,splice,Nat.reduceEqDiff,Nat.reduceAdd,Nat.reduceLT,Nat.reduceLeDiff,Int.reduceNeg,encCell]
  intro b12 hb12
  rw[set_set]
  have o2:=o1.new (n:=b12) (by simpa [View.set] using hb12) 2 [[gi x.kind,gi x.n]]
  clear o1
  generalize (View.set (fun _=>AObj.dead) b10 (.arr 2 [[gi 0,gi 0]])).set b12 (.arr 2 [[gi x.kind,gi x.n]])=H1 at o2 ⊢
  refine CallG.pure hru (by kernel_rfl) ?_
  cases hr:rulesD l t with
  | nil =>
    have h12:=o2.is 0 rfl (by simp)
    have h10:=o2.is 1 rfl (by simp)
    simp (disch:=omega) only [↓wr,↓reduceIte,wq,intOp,goI,Int.reduceNeg,encI]
    refine GoB.eq (fun _=>?_) (fun h=>absurd rfl h)
    simp (disch:=omega) only [↓wr,↓reduceIte,wq,splice,Nat.reduceEqDiff,Nat.reduceAdd,Nat.reduceLT,Nat.reduceLeDiff,Int.reduceNeg,reduceCtorEq,h12,h10]
    intro h' _
    exact frn_cell (.emp _)
  | cons r rs =>
    rw[hr] at hrl
    simp only[List.length_cons] at hrl
    simp (disch:=omega) only [↓wr,↓reduceIte,wq,intOp,goI,Int.reduceNeg,encI]
    refine GoB.eq (fun h=>absurd h (by simp; omega)) (fun _=>?_)
    simp (disch:=omega) only [↓wr,wq,Int.reduceNeg]
    refine LoopG.up rs.length (fun j T H'=>∃ u:V,Owns H' [(u,5,cfE (confO st t r (rs.take j))),(.sl b12 0 1 2,2,[[gi x.kind,gi x.n]]),(.sl b10 0 1 2,2,[[gi 0,gi 0]])]∧T 3=gi st∧T 4=gi t∧T 5=.fptr (encG g) 0∧T 10=.ptr b10 0 0∧T 12=.ptr b12 0 0∧T 13=encI (r :: rs)∧T 14=u∧T 15=gi ((j:Int)+1)) ⟨.emp 1,o2.emp,rfl,rfl,rfl,rfl,rfl,rfl,rfl,rfl⟩ ?_
    clear o2
    rintro j k T H hk ⟨u,ho,t3,t4,t5,t10,t12,t13,t14,t15⟩
    simp (disch:=omega) only [↓wr,↓reduceIte,wq,intOp,goI,Nat.reduceEqDiff,Int.reduceNeg,Int.reduceToNat,B_gerundref17_cell_0,t13,t15,encI]
    refine GoB.dec (fun hc=>?_) (fun hc=>?_)
    · have hx:rs[j]?=some (rs[j]'(by omega)):=List.getElem?_eq_getElem (by omega)
      generalize rs[j]'(by omega)=y at hx
      have hx2:([gi r] :: rs.map fun x=>[gi x])[((j:Int)+1).toNat]?=some [gi y]:=by rw[show ((j:Int)+1).toNat=j+1 by omega]; simp[hx]
      have htk:confO st t r (rs.take (j+1))=confO st t r (rs.take j) ++ [⟨st,t,5,y,r⟩]:=by
        rw[List.take_add_one,hx]; simp[confO]
      simp (disch:=omega) only [↓wr,↓reduceIte,wq,splice,sBuild,fillE,Nat.reduceEqDiff,Nat.reduceAdd,Nat.reduceLT,Nat.reduceLeDiff,Int.reduceNeg,Int.reduceToNat,t3,t4,t13,t14,t15,encI,hx2,List.getElem?_cons_zero]
      intro q hq
      simp (disch:=omega) only [↓wr,↓reduceIte,wq,Nat.reduceEqDiff,Int.reduceNeg,elemsOf_new]
      refine goApp_owns (ho.fresh hq) (by simp[cellOk]) (by unfold limit; rw[cfE_len]; simp[confO]; omega) (by unfold limit; rw[cfE_len]; simp[confO]; omega) ?_
      intro u2 H2 o2 _
      simp (disch:=omega) only [↓wr,↓reduceIte,wq,intOp,Nat.reduceEqDiff,Int.reduceNeg,reduceCtorEq,t10,t13,t15]
      exact up_next hk (by omega) ⟨u2,by rw[htk,cfE,List.map_append]; exact o2,t3,t4,t5,t10,t12,t13,rfl,rfl⟩
    · rw[List.take_of_length_le (by omega)] at ho
      simp (disch:=omega) only [↓wr,↓reduceIte,wq,splice,sBuild,Nat.reduceEqDiff,Nat.reduceAdd,Nat.reduceLT,Nat.reduceLeDiff,Int.reduceNeg,reduceCtorEq,t10,t12,t13,encI,List.getElem?_cons_zero]
      intro b16 hb16
      rw[set_set]
      have o3:=ho.new hb16 2 [[gi 2,gi r]]
      have h120:=ho.is 1 rfl (by simp)
      have n12:¬ b12=b16:=by rintro rfl; rw[h120] at hb16; simp at hb16
      clear ho
      simp (disch:=omega) only [↓wr,↓reduceIte,wq,intOp,Nat.reduceAdd,Nat.reduceLT,Int.reduceNeg,n12,h120]
      generalize H.set b16 (.arr 2 [[gi 2,gi r]])=H2 at o3 ⊢
      have h16:=o3.is 0 rfl (by simp)
      have h12:=o3.is 2 rfl (by simp)
      have h10:=o3.is 3 rfl (by simp)
      refine GoB.eq (fun hz=>?_) (fun hz=>?_)
      · simp (disch:=omega) only [↓wr,↓reduceIte,wq,splice,Nat.reduceEqDiff,Nat.reduceAdd,Nat.reduceLT,Nat.reduceLeDiff,Int.reduceNeg,reduceCtorEq,t10,t14,h16,h10]
        rintro h' hv
        rw[if_pos hz]
        have o4:=(o3.at 3 (by simp)).put (es':=[[gi 2,gi r]]) rfl rfl
        simp only[List.eraseIdx_cons_succ,List.eraseIdx_cons_zero] at o4
        rw[← hv] at o4
        exact frn_cell (c:=⟨2,r⟩) (frn_cf (o4.own 2 rfl))
      · have hse:=pc_Settle17 g hg r t
        simp only[encG,encS] at hse
        simp (disch:=omega) only [↓wr,↓reduceIte,wq,Nat.reduceEqDiff,Nat.reduceAdd,Nat.reduceLT,Nat.reduceLeDiff,Int.reduceNeg,Int.reduceToNat,t4,t5,t13,encI,List.getElem?_cons_zero,encG,encS]
        refine CallG.pure hse (by kernel_rfl) ?_
        rw[if_neg hz]
        generalize settleD g r t=how
        simp (disch:=omega) only [↓wr,↓reduceIte,wq,splice,sBuild,fillE,Nat.reduceEqDiff,Nat.reduceAdd,Nat.reduceLT,Nat.reduceLeDiff,Int.reduceNeg,Int.reduceToNat,t3,t4,t13,t14,encI,List.getElem?_cons_zero]
        intro q hq
        simp (disch:=omega) only [↓wr,↓reduceIte,wq,Nat.reduceEqDiff,Int.reduceNeg,elemsOf_new]
        have o4:=(o3.fresh (o:=.arr 5 [[gi st,gi t,gi how,gi r,gi (-1)]]) hq).at 1 (by simp)
        refine goApp_owns o4 (by simp[cellOk]) (by unfold limit; simp only[cfE_len]; simp[confO]; omega) (by unfold limit; simp only[cfE_len]; simp[confO]; omega) ?_
        intro u2 H3 o5 _
        simp only[List.eraseIdx_cons_succ,List.eraseIdx_cons_zero] at o5
        have h16:=o5.is 1 rfl (by simp)
        have h12:=o5.is 2 rfl (by simp)
        have h10:=o5.is 3 rfl (by simp)
        have o6:Owns H3 ((u2,5,cfE (confO st t r rs ++ [⟨st,t,how,r,-1⟩])) :: [(.sl b16 0 1 2,2,[[gi 2,gi r]]),(.sl b12 0 1 2,2,[[gi x.kind,gi x.n]]),(.sl b10 0 1 2,2,[[gi 0,gi 0]])]):=by
          rw[cfE,List.map_append]; exact o5
        have fin:∀ (c:Cell) (h':Heap),h'.view=H3.set b10 (.arr 2 [encCell c])→FrN h' (.tup [.agg [gi c.kind,gi c.n],u2]) (.tup [.agg (encCell c),.fro (cfE (confO st t r rs ++ [⟨st,t,how,r,-1⟩]))]):=fun c h' hv=>by
          have o7:=(o6.at 3 (by simp)).put (es':=[encCell c]) rfl rfl
          simp only[List.eraseIdx_cons_succ,List.eraseIdx_cons_zero] at o7
          rw[← hv] at o7
          exact frn_cell (frn_cf (o7.own 1 rfl))
        simp (disch:=omega) only [↓wr,↓reduceIte,wq,intOp,Nat.reduceEqDiff,Int.reduceNeg]
        refine GoB.eq (fun e1=>?_) (fun e1=>?_)
        · simp (disch:=omega) only [↓wr,↓reduceIte,wq,splice,Nat.reduceEqDiff,Nat.reduceAdd,Nat.reduceLT,Nat.reduceLeDiff,Int.reduceNeg,reduceCtorEq,t10,h16,h10]
          rw[if_pos e1]
          exact fun h' hv=>fin ⟨2,r⟩ h' hv
        · simp (disch:=omega) only [↓wr,↓reduceIte,wq,intOp,Nat.reduceEqDiff,Int.reduceNeg]
          rw[if_neg e1]
          refine GoB.eq (fun e3=>?_) (fun e3=>?_)
          · simp (disch:=omega) only [↓wr,↓reduceIte,wq,splice,sBuild,Nat.reduceEqDiff,Nat.reduceAdd,Nat.reduceLT,Nat.reduceLeDiff,Int.reduceNeg,reduceCtorEq,t10,h10]
            rw[if_pos e3]
            exact fun h' hv=>fin ⟨0,0⟩ h' hv
          · simp (disch:=omega) only [↓wr,↓reduceIte,wq,splice,Nat.reduceEqDiff,Nat.reduceAdd,Nat.reduceLT,Nat.reduceLeDiff,Int.reduceNeg,reduceCtorEq,t10,t12,h12,h10]
            rw[if_neg e3]
            exact fun h' hv=>fin x h' hv
def B_gerundref17_Build_0:SC :=
  .seq (.seq (ab [aa 40 13,af 41 0 1,ae 42 41,aj 43 42,ak 44 .leq 40 43]) <|
  .cond (.tmp 44) (.skip) (.exit 2)) <|
  .seq (.block 3 (.seq (.regionA [] [⟨none,[au 48 4 1,aa 49 5,aa 50 11,av 51 2 49 50,au 52 2 51,aa 53 7,aa 54 11,av 55 1 53 54,ae 56 55,aa 57 11,aa 58 13,ao 59 54 [48,52,56,57,58],aa 47 59,aA 60 0 47,aA 61 1 47,((some 14),.op (.alloc [(.val (.int .i64 0)),(.val (.int .i64 0))])),(none,.op (.store 2 (.tmp 14) (.tmp 60))),aa 15 61]⟩]) <|
  .seq (ab [aa 62 12,au 63 2 14,((some 64),.op (.bslice 1 2 [(.val (.int .i64 0)),(.val (.int .i64 0))] [(0,(.tmp 63))])),((some 65),.op (.app 2 16 (.tmp 62) (.tmp 64))),aa 12 65]) <|
  ab [aa 66 10,aa 67 15,((some 68),.op (.app 5 40 (.tmp 66) (.tmp 67))),aa 10 68])) <|
  ab [aa 45 13,ah 46 .add 45 1,aa 13 46]
def B_gerundref17_Build_1:SC :=
  .seq (.seq (ab [aa 69 17,af 70 1 1,ae 71 70,aj 72 71,ak 73 .lss 69 72]) <|
  .cond (.tmp 73) (.skip) (.exit 4)) <|
  .seq (.block 5 (.seq (ab [aa 77 5,aa 78 11,aa 79 17,((some 80),.op (.arith .sub (.val (.val (.int .i64 (-1)))) (.tmp 79))),((some 81),.op (.bslice 1 1 [(.val (.int .i64 0))] [(0,(.tmp 80))])),ao 82 37 [77,78,81],aa 76 82,aA 83 0 76,aA 84 1 76,aa 18 83,aa 19 84]) <|
  .seq (.seq (ab [aa 85 19,aB 86 85]) <|
  .cond (.tmp 86) (ab [ai 18 (-1)]) (.skip)) <|
  ab [aa 87 16,aa 88 18,((some 89),.op (.bslice 1 1 [(.val (.int .i64 0))] [(0,(.tmp 88))])),((some 90),.op (.app 1 8 (.tmp 87) (.tmp 89))),aa 16 90])) <|
  ab [aa 74 17,ah 75 .add 74 1,aa 17 75]
def B_gerundref17_Build_2:SC :=
  .seq (.seq (ab [aa 34 11,aa 35 5,aj 36 35,ak 37 .lss 34 36]) <|
  .cond (.tmp 37) (.skip) (.exit 0)) <|
  .seq (.block 1 (.seq (ab [((some 12),.op (.mov (.val (.emp 1))))]) <|
  .seq (.seq (ab [ai 13 0]) <|
  .block 2 (.loop B_gerundref17_Build_0)) <|
  .seq (ab [((some 16),.op (.mov (.val (.emp 1))))]) <|
  .seq (.seq (ab [ai 17 0]) <|
  .block 4 (.loop B_gerundref17_Build_1)) <|
  .regionA [(96,92)] [⟨none,[af 91 0 9,ae 92 91,aa 93 12,((some 94),.op (.bslice 1 1 [(.emp 1)] [(0,(.tmp 93))])),((some 95),.op (.app 1 24 (.tmp 92) (.tmp 94))),af 96 1 9,ae 97 96,aa 98 16,((some 99),.op (.bslice 1 1 [(.emp 1)] [(0,(.tmp 98))])),((some 100),.op (.app 1 24 (.tmp 97) (.tmp 99))),af 101 0 9,(none,.op (.store 1 (.tmp 101) (.tmp 95))),af 102 1 9,(none,.op (.store 1 (.tmp 102) (.tmp 100)))]⟩])) <|
  ab [aa 38 11,ah 39 .add 38 1,aa 11 39]
def S_gerundref17_Build:SF:=⟨.seq (ab [aC 1 0,((some 2),.op (.alloc [(.emp 1),(.emp 1)])),((some 3),.op (.mov (.val (.emp 1)))),ai 4 0]) <|
  .seq (ab [au 21 4 1,ao 22 33 [21],aa 20 22,aA 23 0 20,aA 24 1 20,aa 5 23,aa 6 24]) <|
  .seq (.seq (ab [aa 25 6,ah 26 .neq 25 0]) <|
  .cond (.tmp 26) (.seq (ab [((some 27),.op (.build [(.emp 1),(.emp 1)] [])),aa 28 6,(none,.op (.store 2 (.tmp 2) (.tmp 27))),((some 3),.op (.mov (.val (.emp 1)))),aa 4 28]) <|
  .ret) (.skip)) <|
  .seq (ab [au 30 4 1,ao 31 50 [30],aa 29 31,aA 32 0 29,aA 33 1 29,aa 7 32,aa 8 33]) <|
  .seq (ab [((some 9),.op (.alloc [(.emp 1),(.emp 1)]))]) <|
  .seq (ab [((some 10),.op (.mov (.val (.emp 1))))]) <|
  .seq (.seq (ab [ai 11 0]) <|
  .block 0 (.loop B_gerundref17_Build_2)) <|
  .seq (ab [au 103 2 9,aa 104 10,(none,.op (.store 2 (.tmp 2) (.tmp 103))),aa 3 104,ai 4 0]) <|
  .ret,
  [.cell 2 (some 2),.tmp 3,.tmp 4],105⟩
theorem S_gerundref17_Build_ok:compF Tryz.prog 17 [1,100000]=some S_gerundref17_Build:=by kernel_rfl
theorem look_len {g:Gram} {a:List StP} {ls:List (List LrI)} (hls:closL g a=ls) (hW:∀ l∈ls,l.length≤10000∧∀ x∈l,HasLr g x) (i:Nat):(lookR g a i).length≤10000:=by
  unfold lookR
  refine Nat.le_trans (List.length_filterMap_le _ _) ?_
  rw[hls,List.getD_eq_getElem?_getD]
  cases h:ls[i]? with
  | none=>simp
  | some l=>exact (hW l (List.mem_of_getElem? h)).1
theorem cellTb_len (g:Gram) (s:StP) (l:List PLook) (st t:Int):(cellTb g s l st t).2.length≤l.length:=by
  have:=rulesD_len l t
  unfold cellTb
  cases h:rulesD l t with
  | nil=>simp
  | cons r rs =>
    rw[h] at this
    simp only[List.length_cons] at this
    simp only
    split
    · simp[confO]; omega
    · simp[confO]; omega
theorem rowTb_succ (g:Gram) (s:StP) (l:List PLook) (st:Int) (n:Nat):rowTb g s l st (n+1)=rowTb g s l st n ++ [(cellTb g s l st n).1]:=by simp[rowTb,List.range_succ]
theorem cofD_succ (g:Gram) (s:StP) (l:List PLook) (st:Int) (n:Nat):cofD g s l st (n+1)=cofD g s l st n ++ (cellTb g s l st n).2:=by simp[cofD,List.range_succ]
theorem cofD_len {g:Gram} {s:StP} {l:List PLook} {st:Int} (hl:l.length≤10000):∀ n:Nat,(cofD g s l st n).length≤n * 10000
  | 0=>by simp[cofD]
  | n+1=>by
    have h1:=cofD_len (g:=g) (s:=s) (st:=st) hl n
    have h2:=cellTb_len g s l st n
    rw[cofD_succ,List.length_append]
    omega
theorem conD_succ (g:Gram) (a:List StP) (l:List (List PLook)) (n:Nat):conD g a l (n+1)=conD g a l n ++ cofD g (a.getD n noSt) (l.getD n []) n (g.terms.length+1):=by simp[conD,List.range_succ]
theorem conD_len {g:Gram} {a:List StP} {l:List (List PLook)} (hl:∀ i,(l.getD i []).length≤10000) (hT:g.terms.length≤24):∀ n:Nat,(conD g a l n).length≤n * 250000
  | 0=>by simp[conD]
  | n+1=>by
    have h1:=conD_len (a:=a) hl hT n
    have h2:=cofD_len (g:=g) (s:=a.getD n noSt) (st:=n) (hl n) (g.terms.length+1)
    rw[conD_succ,List.length_append]
    omega
theorem cfE_ok (l:List PConf):((cfE l).all fun e=>e.length == 5 && e.all cellOk)=true:=by simp[cfE,List.all_map,encCf,cellOk]
theorem frn_build {h:Heap} {u v s t w x:V} {e:Int} (h1:FrN h u s) (h2:FrN h v t) (h3:FrN h w x):FrN h (.tup [.agg [u,v],w,gi e]) (.tup [.agg [s,t],x,gi e]):=.tup _ _ rfl fun i hi=>by
  match i,hi with
  | 0,_=>exact frn_two h1 h2
  | 1,_=>exact h3
  | 2,_=>exact .val _
theorem place3 {α:Type} {X Y:α} {C I:List α} : (Y :: X :: (C ++ I)).Perm ((C ++ [X]) ++ (I ++ [Y])):=by
  rw[← List.append_assoc]
  refine .trans (.cons Y ?_) (List.perm_append_singleton Y _).symm
  rw[List.append_assoc]
  exact List.perm_middle.symm
theorem perm_tab {α:Type} {b u a k r c d:α} {C I:List α} : (b :: u :: a :: k :: r :: c :: d :: (C ++ I)).Perm (a :: u :: c :: b :: d :: ((C ++ [r]) ++ (I ++ [k]))) :=
  (List.perm_middle (a:=a) (l₁:=[b,u])).trans (.cons a ((List.perm_middle (a:=u) (l₁:=[b])).trans (.cons u ((List.perm_middle (a:=c) (l₁:=[b,k,r])).trans (.cons c (.cons b ((List.perm_middle (a:=d) (l₁:=[k,r])).trans (.cons d (place3 (Y:=k) (X:=r) (C:=C) (I:=I))))))))))
set_option maxHeartbeats 16000000 in
theorem pn_Build17 (g:Gram) (hg:g.Ok):PNew Tryz.prog 17 [.agg (encG g)] (.tup [.agg (encTab (buildD g).1),.fro (cfE (buildD g).2.1),gi (buildD g).2.2]):=by
  refine PNew.of (gg_tree g) ?_
  have hB:=(pn_Build15 g hg).pure
  have hO:=(pn_Of16 g hg).pure
  refine MCall.of mixed S_gerundref17_Build_ok ?_
  simp only[encG,encS] at hB hO
  simp (disch:=omega) only [↓wr,↓reduceIte,wq,oneV,Nat.reduceEqDiff,Nat.reduceAdd,Nat.reduceLeDiff,S_gerundref17_Build,encG,encS]
  intro b2
  refine CallG.pure hB (by kernel_rfl) ?_
  unfold buildD
  simp (disch:=omega) only [↓wr,↓reduceIte,wq,intOp,Nat.reduceEqDiff,Nat.reduceAdd,Nat.reduceLT]
  refine GoB.ne (fun h=>?_) (fun h=>?_)
  · simp (disch:=omega) only [↓wr,↓reduceIte,wq,splice,sBuild,Nat.reduceEqDiff,Nat.reduceAdd,Nat.reduceLT,Nat.reduceLeDiff,reduceCtorEq]
    intro h' _
    rw[if_neg h]
    exact frn_build (.emp _) (.emp _) (.emp _)
  rw[if_pos h]
  unfold lookD at hO ⊢
  rw[if_pos h] at hO ⊢
  obtain ⟨hW,hA⟩:=autoD_work hg h
  have hlen:=look_len rfl hW.item
  generalize (autoD g).1=a at *
  clear hB h
  have hf:=right09_fine hW.right
  have h300:=hW.short
  have hT:=hf.terms
  have hN:=hf.nons
  have hlk:∀ i:Nat,i < a.length→(lookL g a)[i]?=some (lookR g a i):=fun i hi=>by rw[lookL,List.getElem?_map,List.getElem?_range hi]; rfl
  have hll:(lookL g a).length=a.length:=by simp[lookL]
  have hlD:∀ i:Nat,((lookL g a).getD i []).length≤10000:=fun i=>by
    rw[List.getD_eq_getElem?_getD]
    rcases Nat.lt_or_ge i a.length with hi | hi
    · rw[hlk i hi]; exact hlen i
    · rw[List.getElem?_eq_none (by omega)]; simp
  generalize lookL g a=L at *
  simp (disch:=omega) only [↓wr,↓reduceIte,wq,Nat.reduceEqDiff,Nat.reduceAdd,Nat.reduceLeDiff]
  refine CallG.pure hO (by kernel_rfl) ?_
  simp (disch:=omega) only [↓wr,↓reduceIte,wq,Nat.reduceEqDiff,Nat.reduceAdd,Nat.reduceLT]
  intro b9 hb9
  have o0:=(Owns.nil.new (n:=b2) (H:=fun _=>AObj.dead) rfl 2 [[.emp 1,.emp 1]]).new (n:=b9) (by simpa [View.set] using hb9) 2 [[.emp 1,.emp 1]]
  have hb29:b9≠b2:=(dead_if hb9 arr_live).1
  have o1:=(((o0.emp (k:=1) (sz:=5)).emp (k:=1) (sz:=1)).emp (k:=1) (sz:=1))
  clear o0
  generalize (View.set (fun _=>AObj.dead) b2 (.arr 2 [[.emp 1,.emp 1]])).set b9 (.arr 2 [[.emp 1,.emp 1]])=H0 at o1 ⊢
  refine LoopG.up a.length (fun i T H'=>∃ (ua ug uc:V) (A:RowsC) (G:RowsI),A.map (·.2)=(tabD g a L i).actions∧G.map (·.2)=(tabD g a L i).gotos ∧
    Owns H' ((ua,1,rowsE A) :: (ug,1,rowsE G) :: (uc,5,cfE (conD g a L i)) :: (.sl b9 0 1 2,2,[[ua,ug]]) :: (.sl b2 0 1 2,2,[[.emp 1,.emp 1]]) :: (rowsC A ++ rowsI G))∧T 1=.fptr (encG g) 0∧T 2=.ptr b2 0 0∧T 5=encSts a∧T 7=encLks L∧T 9=.ptr b9 0 0∧T 10=uc∧T 11=gi i)
    ⟨.emp 1,.emp 1,.emp 1,[],[],rfl,rfl,o1,rfl,rfl,rfl,rfl,rfl,rfl,rfl⟩ ?_
  clear o1 hb9
  rintro i k T H hk ⟨ua,ug,uc,A,G,hAe,hGe,ho,t1,t2,t5,t7,t9,t10,t11⟩
  simp (disch:=omega) only [↓wr,↓reduceIte,wq,intOp,goI,Nat.reduceEqDiff,B_gerundref17_Build_2,t5,t11,encSts]
  refine GoB.dec (fun hc=>?_) (fun hc=>?_)
  · have hs:a[i]?=some (a.getD i noSt):=getD_some (by omega)
    have hl:=hlk i (by omega)
    have hlR:=hlen i
    obtain ⟨k1,k2,k3⟩:=hA.ker _ (List.mem_of_getElem? hs)
    have hE:=hA.edg _ (List.mem_of_getElem? hs)
    have hkl:=sort_len hf k1 k3
    have hLd:L.getD i []=lookR g a i:=by rw[List.getD_eq_getElem?_getD,hl]; rfl
    have hcon:=conD_succ g a L i
    have hcl:=conD_len (g:=g) (a:=a) (l:=L) hlD hT i
    have hrows:(tabD g a L (i+1)).actions=(tabD g a L i).actions ++ [rowTb g (a.getD i noSt) (lookR g a i) i (g.terms.length+1)]∧(tabD g a L (i+1)).gotos=(tabD g a L i).gotos ++ [gorD g a i]:=by
      simp only[tabD,List.range_succ,List.map_append,List.map_cons,List.map_nil,hLd,and_self]
    rw[hLd] at hcon
    generalize lookR g a i=lk at *
    generalize a.getD i noSt=s at *
    simp (disch:=omega) only [↓wr,wq]
    generalize hBB:((.sl b9 0 1 2,2,[[ua,ug]]) :: (.sl b2 0 1 2,2,[[.emp 1,.emp 1]]) :: (rowsC A ++ rowsI G):List Ent)=BB at ho
    refine LoopG.up (g.terms.length+1) (fun j T H'=>∃ (ur uc:V),Owns H' ((ur,2,(rowTb g s lk i j).map encCell) :: (uc,5,cfE (conD g a L i ++ cofD g s lk i j)) :: (ua,1,rowsE A) :: (ug,1,rowsE G) :: BB)∧T 1=.fptr (encG g) 0∧T 2=.ptr b2 0 0∧T 5=encSts a∧T 7=encLks L∧T 9=.ptr b9 0 0∧T 10=uc∧T 11=gi i∧T 12=ur∧T 13=gi j)
      ⟨.emp 1,uc,by rw[show cofD g s lk i 0=[] from rfl,List.append_nil]; exact (ho.perm rot3.symm).emp,t1,t2,t5,t7,t9,t10,t11,rfl,rfl⟩ ?_
    clear ho t1 t2 t5 t7 t9 t10 t11
    clear uc
    rintro j k2 T2 H2 hk2 ⟨ur,uc,ho,t1,t2,t5,t7,t9,t10,t11,t12,t13⟩
    simp (disch:=omega) only [↓wr,↓reduceIte,wq,intOp,goI,Nat.reduceEqDiff,Nat.reduceAdd,Nat.reduceLT,B_gerundref17_Build_0,t1,t13,encG]
    refine GoB.dec (fun hcj=>?_) (fun hcj=>?_)
    · have hce:=(pn_cell17 g hg s ⟨by unfold Short; omega,by unfold Short; omega⟩ lk hlR i j).pure
      have hcc:=cellTb_len g s lk i j
      have hcf:=cofD_len (g:=g) (s:=s) (st:=i) hlR j
      have r1:=rowTb_succ g s lk i j
      have r2:=cofD_succ g s lk i j
      have hrl:(rowTb g s lk i j).length=j:=by simp[rowTb]
      generalize cellTb g s lk i j=ce at *
      obtain ⟨c,cf⟩:=ce
      simp only[encG,encS,encSt,encCell] at hce
      simp (disch:=omega) only [↓wr,↓reduceIte,wq,Nat.reduceEqDiff,Nat.reduceAdd,Nat.reduceLT,Nat.reduceLeDiff,t1,t5,t7,t11,t13,encG,encS,encSts,encLks,List.getElem?_map,hs,hl,encSt]
      refine CallG.pure hce (by kernel_rfl) ?_
      simp (disch:=omega) only [↓wr,↓reduceIte,wq,splice,fillE,Nat.reduceEqDiff,Nat.reduceAdd,Nat.reduceLT,Nat.reduceLeDiff,t12]
      intro b14 hb14
      intro q hq
      obtain ⟨q1,q2⟩:=dead_if hq arr_live
      have q3:=(dead_if q2 arr_live).2
      simp (disch:=omega) only [↓wr,↓reduceIte,wq,Nat.reduceEqDiff,elemsOf_new]
      have o1:=(ho.fresh hb14 (o:=.arr 2 [[gi c.kind,gi c.n]])).fresh (n:=q) (o:=.arr 2 [[gi c.kind,gi c.n]]) (by simp[View.set,q1,q3])
      rw[set_set]
      refine goApp_owns o1 (by simp[cellOk]) (by unfold limit; rw[List.length_map,hrl]; simp only[List.length_cons,List.length_nil]; omega) (by unfold limit; rw[List.length_map,hrl]; simp only[List.length_cons,List.length_nil]; omega) ?_
      intro ur2 H5 o5 _
      simp (disch:=omega) only [↓wr,↓reduceIte,wq,Nat.reduceEqDiff,t10]
      simp only at hcc
      refine goApp_owns (o5.perm (.swap _ _ _)) (cfE_ok cf) (by unfold limit; rw[cfE_len,cfE_len,List.length_append]; omega) (by unfold limit; rw[cfE_len,cfE_len,List.length_append]; omega) ?_
      intro uc2 H6 o6 _
      simp (disch:=omega) only [↓wr,↓reduceIte,wq,intOp,Nat.reduceEqDiff,reduceCtorEq,t2,t9,t11,t13]
      refine up_next hk2 (by omega) ⟨ur2,uc2,?_,t1,t2,t5,t7,t9,rfl,t11,rfl,rfl⟩
      rw[r1,r2]
      have o7:=o6.perm (.swap _ _ _)
      rw[show (rowTb g s lk i j ++ [c]).map encCell=(rowTb g s lk i j).map encCell ++ [[gi c.kind,gi c.n]] by simp[encCell],← List.append_assoc,cfE,List.map_append]
      exact o7
    · have hje:j=g.terms.length+1:=by omega
      subst hje
      have hrl:(rowTb g s lk i (g.terms.length+1)).length=g.terms.length+1:=by simp[rowTb]
      rw[← hcon] at ho
      simp (disch:=omega) only [↓wr,↓reduceIte,wq,Nat.reduceEqDiff,reduceCtorEq,t2,t9,t11]
      refine LoopG.up g.nons.length (fun j T H'=>∃ (uk:V),Owns H' ((uk,1,intsE ((List.range j).map fun (k:Nat)=>gotoD a i k)) :: (ur,2,(rowTb g s lk i (g.terms.length+1)).map encCell) :: (uc,5,cfE (conD g a L (i+1))) :: (ua,1,rowsE A) :: (ug,1,rowsE G) :: BB)∧T 1=.fptr (encG g) 0∧T 2=.ptr b2 0 0∧T 5=encSts a∧T 7=encLks L∧T 9=.ptr b9 0 0∧T 10=uc∧T 11=gi i∧T 12=ur∧T 16=uk∧T 17=gi j)
        ⟨.emp 1,ho.emp,t1,t2,t5,t7,t9,t10,t11,t12,rfl,rfl⟩ ?_
      clear ho t1 t2 t5 t7 t9 t10 t11 t12 t13
      rintro j k3 T4 H4 hk3 ⟨uk,ho,t1,t2,t5,t7,t9,t10,t11,t12,t16,t17⟩
      simp (disch:=omega) only [↓wr,↓reduceIte,wq,intOp,goI,Nat.reduceEqDiff,Nat.reduceAdd,Nat.reduceLT,Int.reduceNeg,B_gerundref17_Build_1,t1,t17,encG,encS]
      refine GoB.dec (fun hcj2=>?_) (fun hcj2=>?_)
      · have hwk:=pc_Walk15 a (by unfold Short; omega) hW.edg i [-1 - (j:Int)] (by unfold Short; simp)
        have hrs:(List.range (j+1)).map (fun (k:Nat)=>gotoD a i k)=(List.range j).map (fun (k:Nat)=>gotoD a i k) ++ [gotoD a i j]:=by rw[List.range_succ,List.map_append]; rfl
        have hgo:gotoD a i j=if (walkD a i [-1 - (j:Int)]).2=true then (walkD a i [-1 - (j:Int)]).1 else -1:=rfl
        simp (disch:=omega) only [↓wr,↓reduceIte,wq,intOp,fillE,Nat.reduceEqDiff,Nat.reduceLT,Int.reduceNeg,t5,t11,t17]
        intro q hq
        refine CallG.lend hwk (by kernel_rfl) (.tup _ fun j hj=>by
          match j,hj with
          | 0,_=>exact ⟨_,rfl⟩
          | 1,_=>exact ⟨_,rfl⟩) ⟨.tree (encSts_tree a),.tree (.val _),lent_intsL (l:=[-1 - (j:Int)]) (by simp[View.set]) rfl,trivial⟩ ?_
        have o1:=ho.fresh (o:=.arr 1 [[gi (-1 - (j:Int))]]) hq
        generalize H4.set q (.arr 1 [[gi (-1 - (j:Int))]])=H5 at o1 ⊢
        generalize walkD a i [-1 - (j:Int)]=wk at hgo ⊢
        obtain ⟨to,okb⟩:=wk
        simp only at hgo
        simp (disch:=omega) only [↓wr,↓reduceIte,wq,Nat.reduceEqDiff,Nat.reduceAdd,Nat.reduceLT,Int.reduceNeg]
        cases okb with
        | true =>
          rw[if_pos rfl] at hgo
          simp (disch:=omega) only [↓wr,↓reduceIte,wq,fillE,Nat.reduceEqDiff,Nat.reduceLT,Int.reduceNeg,t16]
          intro q2 hq2
          simp (disch:=omega) only [↓wr,↓reduceIte,wq,Nat.reduceEqDiff,Int.reduceNeg,elemsOf_new]
          refine goApp_owns (o1.fresh hq2) (by simp[cellOk]) (by unfold limit; simp; omega) (by unfold limit; simp; omega) ?_
          intro uk2 H6 o6 _
          simp (disch:=omega) only [↓wr,↓reduceIte,wq,intOp,Nat.reduceEqDiff,Int.reduceNeg,reduceCtorEq,t2,t9,t11,t17]
          refine up_next hk3 (by omega) ⟨uk2,?_,t1,t2,t5,t7,t9,t10,t11,t12,rfl,rfl⟩
          rw[hrs,hgo,intsE,List.map_append]
          exact o6
        | false =>
          rw[if_neg (by simp)] at hgo
          simp (disch:=omega) only [↓wr,↓reduceIte,wq,fillE,Nat.reduceEqDiff,Nat.reduceLT,Int.reduceNeg,t16]
          intro q2 hq2
          simp (disch:=omega) only [↓wr,↓reduceIte,wq,Nat.reduceEqDiff,Int.reduceNeg,elemsOf_new]
          refine goApp_owns (o1.fresh hq2) (by simp[cellOk]) (by unfold limit; simp; omega) (by unfold limit; simp; omega) ?_
          intro uk2 H6 o6 _
          simp (disch:=omega) only [↓wr,↓reduceIte,wq,intOp,Nat.reduceEqDiff,Int.reduceNeg,reduceCtorEq,t2,t9,t11,t17]
          refine up_next hk3 (by omega) ⟨uk2,?_,t1,t2,t5,t7,t9,t10,t11,t12,rfl,rfl⟩
          rw[hrs,hgo,intsE,List.map_append]
          exact o6
      · have hje2:j=g.nons.length:=by omega
        subst hje2
        have ho:Owns H4 ((uk,1,intsE (gorD g a i)) :: (ur,2,(rowTb g s lk i (g.terms.length+1)).map encCell) :: (uc,5,cfE (conD g a L (i+1))) :: (ua,1,rowsE A) :: (ug,1,rowsE G) :: BB):=ho
        have lA:=congrArg List.length hAe
        have lG:=congrArg List.length hGe
        simp only[tabD,List.length_map,List.length_range] at lA lG
        subst hBB
        have h9:=ho.is 5 rfl (by simp)
        have ca:=(ho.own 3 rfl).cells
        have cr:=(ho.own 1 rfl).cells
        have kr:=(ho.own 1 rfl).cok
        have ck:=(ho.own 0 rfl).cells
        have kk:=(ho.own 0 rfl).cok
        simp (disch:=omega) only [↓wr,↓reduceIte,wq,splice,fillE,Nat.reduceEqDiff,Nat.reduceAdd,Nat.reduceLT,Nat.reduceLeDiff,reduceCtorEq,t2,t9,t10,t11,t12,h9,cr,kr]
        intro q hq
        simp (disch:=omega) only [↓wr,↓reduceIte,wq,Nat.reduceEqDiff,elemsOf_new]
        have o4:=(ho.fresh (o:=.arr 1 [[ur]]) hq).at 3 (by simp)
        refine goApp_owns o4 (by simp[kr]) (by unfold limit; simp[rowsE]; omega) (by unfold limit; simp[rowsE]; omega) ?_
        intro ua2 H5 o5 _
        simp only[List.eraseIdx_cons_succ,List.eraseIdx_cons_zero] at o5
        have h95:=o5.is 5 rfl (by simp)
        simp (disch:=omega) only [↓wr,↓reduceIte,wq,fillE,Nat.reduceEqDiff,Nat.reduceAdd,Nat.reduceLT,t9,t16,h95,ck,kk]
        intro q2 hq2
        simp (disch:=omega) only [↓wr,↓reduceIte,wq,Nat.reduceEqDiff,elemsOf_new]
        have o6:=(o5.fresh (o:=.arr 1 [[uk]]) hq2).at 4 (by simp)
        refine goApp_owns o6 (by simp[kk]) (by unfold limit; simp[rowsE]; omega) (by unfold limit; simp[rowsE]; omega) ?_
        intro ug2 H6 o7 _
        simp only[List.eraseIdx_cons_succ,List.eraseIdx_cons_zero] at o7
        have h97:=o7.is 5 rfl (by simp)
        have ca2:=(o7.own 1 rfl).cells
        have ka2:=(o7.own 1 rfl).cok
        have cg2:=(o7.own 0 rfl).cells
        have kg2:=(o7.own 0 rfl).cok
        simp (disch:=omega) only [↓wr,↓reduceIte,wq,intOp,splice,Nat.reduceEqDiff,Nat.reduceAdd,Nat.reduceLT,Nat.reduceLeDiff,reduceCtorEq,t2,t9,t10,t11,h97,ca2,ka2,cg2,kg2]
        refine ⟨apv_own (ho.own 3 rfl) ((ho.at 5 (by simp)).off rfl _ (List.mem_of_getElem? (i:=3) rfl)),?_⟩
        rw[set_set]
        refine up_next hk (by omega) ⟨ua2,ug2,uc,A ++ [(ur,rowTb g s lk i (g.terms.length+1))],G ++ [(uk,gorD g a i)],?_,?_,?_,t1,t2,t5,t7,t9,t10,rfl⟩
        · rw[List.map_append,hAe,hrows.1]; rfl
        · rw[List.map_append,hGe,hrows.2]; rfl
        · have o8:=(o7.at 5 (by simp)).put (es':=[[ua2,ug2]]) rfl rfl
          simp only[List.eraseIdx_cons_succ,List.eraseIdx_cons_zero] at o8
          simp only[rowsE,rowsC,rowsI,List.map_append,List.map_cons,List.map_nil]
          exact o8.perm perm_tab
  · have hie:i=a.length:=by omega
    subst hie
    have h9:=ho.is 3 rfl (by simp)
    have h2:=ho.is 4 rfl (by simp)
    have ca:=(ho.own 0 rfl).cells
    have ka:=(ho.own 0 rfl).cok
    have cg:=(ho.own 1 rfl).cells
    have kg:=(ho.own 1 rfl).cok
    simp (disch:=omega) only [↓wr,↓reduceIte,wq,splice,Nat.reduceEqDiff,Nat.reduceAdd,Nat.reduceLT,Nat.reduceLeDiff,reduceCtorEq,t2,t9,t10,h9,h2,ka,kg]
    intro h' hv
    have o9:=(ho.at 4 (by simp)).put (es':=[[ua,ug]]) rfl rfl
    simp only[List.eraseIdx_cons_succ,List.eraseIdx_cons_zero] at o9
    rw[← hv] at o9
    unfold encTab
    rw[← hAe,← hGe]
    refine frn_build (rowsC_frn (o9.own 1 rfl) fun x hx=>o9.1 (x.1,2,x.2.map encCell) ?_) (Outs.frn ⟨G,rfl,o9.own 2 rfl,fun x hx=>o9.1 (x.1,1,intsE x.2) ?_⟩) (frn_cf (o9.own 3 rfl))
    · simp only[List.mem_cons,List.mem_append]
      exact .inr (.inr (.inr (.inr (.inr (.inl (List.mem_map.2 ⟨x,hx,rfl⟩))))))
    · simp only[List.mem_cons,List.mem_append]
      exact .inr (.inr (.inr (.inr (.inr (.inr (List.mem_map.2 ⟨x,hx,rfl⟩))))))
structure ShapeT (t:Tab) (n m:Nat):Prop where
  cols:n≤24
  nons:m≤16
  len1:1≤t.actions.length
  len:t.actions.length≤300
  gos:t.gotos.length=t.actions.length
  row:∀ r∈t.actions,r.length=n+1
  go:∀ r∈t.gotos,r.length=m
theorem LoopG.upX {P:Program} {T:Env} {H:View} {c:SC} {Q:Exit→Env→View→Prop} {v:Veil (T,H,Q)} (l:Nat) (n:Nat) (J:Nat→Env→View→Prop) (X:Env→View→Prop) (h0:J 0 T H)
    (hs:∀ (Q':Exit→Env→View→Prop),(∀ T H,X T H→Q' (.exit l) T H)→∀ i k T H,i+k=n→J i T H→wS P c T H fun e T' H'=>ifN e (∃ k',k' < k∧UpN n k' J T' H') (Q' e T' H')) (hQ:∀ T H,X T H→Q (.exit l) T H):LoopG P c T H Q v :=
  LoopG.up n J h0 (hs Q hQ)
structure AutE (g:Gram) (a:List StP):Prop where
  first:(a.getD 0 noSt).ker=[⟨-1,0⟩]
  edge:∀ s∈a,∀ e∈s.edg,(a.getD e.to.toNat noSt).ker=movD g (closD g s.ker) e.sym
theorem ker_modify (l:List StP) (i:Nat) (c:PEdg) (j:Nat):((l.modify i fun x=>(⟨x.ker,x.edg ++ [c]⟩:StP)).getD j noSt).ker=(l.getD j noSt).ker:=by
  simp only[List.getD_eq_getElem?_getD,List.getElem?_modify]
  cases l[j]? with
  | none=>rfl
  | some x =>
    by_cases e:i=j
    · subst e; simp
    · simp[e]
theorem AutE.put {g:Gram} {out:List StP} (h:AutE g out) {at_:Nat} {s to:Int} (ht:(out.getD to.toNat noSt).ker=movD g (closD g (out.getD at_ noSt).ker) s):AutE g (out.modify at_ fun x=>(⟨x.ker,x.edg ++ [⟨s,to⟩]⟩:StP)):=by
  refine ⟨by rw[ker_modify]; exact h.first,fun y hy e he=>?_⟩
  rw[ker_modify]
  rcases mem_modify hy with hy | ⟨x,hx,rfl⟩
  · exact h.edge y hy e he
  · rcases List.mem_append.1 he with he | he
    · exact h.edge x (List.mem_of_getElem? hx) e he
    · simp at he; subst he
      rw[ht,List.getD_eq_getElem?_getD,hx]; rfl
theorem AutE.add {g:Gram} {out:List StP} (h:AutE g out) (h1:1≤out.length) (ht:∀ s∈out,∀ e∈s.edg,0≤e.to∧e.to < out.length) (k:List LrI):AutE g (out ++ [⟨k,[]⟩]):=by
  have hg:∀ j:Nat,j < out.length→((out ++ [(⟨k,[]⟩:StP)]).getD j noSt)=out.getD j noSt:=fun j hj=>by
    simp[List.getD_eq_getElem?_getD,List.getElem?_append_left hj]
  refine ⟨by rw[hg 0 (by omega)]; exact h.first,fun y hy e he=>?_⟩
  rcases List.mem_append.1 hy with hy | hy
  · have:=ht y hy e he
    rw[hg _ (by omega)]; exact h.edge y hy e he
  · simp at hy; subst hy; simp at he
theorem stepA_ker (g:Gram) (l:List LrI) (at_:Nat) (out:List StP) (i:Nat) {j:Nat} (hj:j < out.length):((stepA g l at_ out i).getD j noSt).ker=(out.getD j noSt).ker:=by
  unfold stepA
  split
  · rfl
  · split
    · rw[ker_modify]
      simp[List.getD_eq_getElem?_getD,List.getElem?_append_left hj]
    · rw[ker_modify]
theorem AutE.step {g:Gram} {l:List LrI} {at_ i:Nat} {out:List StP} (h:AutE g out) (hi:AutI g at_ i out) (ha:at_ < out.length) (hl:closD g (out.getD at_ noSt).ker=l):AutE g (stepA g l at_ out i):=by
  unfold stepA
  split
  · exact h
  · split
    · refine (h.add (by omega) hi.to _).put ?_
      rw[Int.toNat_natCast]
      have e1:((out ++ [(⟨movD g l (symL g i),[]⟩:StP)]).getD out.length noSt).ker=movD g l (symL g i):=by
        simp[List.getD_eq_getElem?_getD]
      have e2:(out ++ [(⟨movD g l (symL g i),[]⟩:StP)]).getD at_ noSt=out.getD at_ noSt:=by
        simp[List.getD_eq_getElem?_getD,List.getElem?_append_left ha]
      rw[e1,e2,hl]
    · rename_i hf
      refine h.put ?_
      obtain ⟨n,hn⟩:∃ n:Nat,findD out (movD g l (symL g i))=n:=⟨(findD out (movD g l (symL g i))).toNat,by omega⟩
      obtain ⟨s,h1,h2⟩:=findD_at _ _ _ hn
      rw[hn,Int.toNat_natCast,List.getD_eq_getElem?_getD,h1,hl]
      exact h2
theorem AutE.row {g:Gram} (hf:g.Fine) {at_:Nat} {out:List StP} (h:AutE g out) (hi:AutI g at_ 0 out) (ha:at_ < out.length):∀ n:Nat,n≤40→AutE g ((List.range n).foldl (stepA g (closD g (out.getD at_ noSt).ker) at_) out)∧(((List.range n).foldl (stepA g (closD g (out.getD at_ noSt).ker) at_) out).getD at_ noSt).ker=(out.getD at_ noSt).ker
  | 0,_=>⟨h,rfl⟩
  | n+1,hn=>by
    obtain ⟨h1,h2⟩:=AutE.row hf h hi ha n (by omega)
    obtain ⟨i1,i2,i3⟩:=AutI.row (hi.clos hf ha).1 (hi.clos hf ha).2 hi n (by omega)
    rw[List.range_succ,List.foldl_append]
    simp only[List.foldl_cons,List.foldl_nil]
    refine ⟨h1.step i1 (by omega) (by rw[h2]),?_⟩
    rw[stepA_ker _ _ _ _ _ (by omega),h2]
theorem loopA_edge {g:Gram} (hf:g.Fine):∀ (f at_:Nat) (out:List StP),AutI g at_ 0 out→AutE g out→(loopA g f at_ out).2=0→AutE g (loopA g f at_ out).1
  | 0,_,out,_,h,_=>h
  | f+1,at_,out,hi,h,h3=>by
    rw[loopA] at h3 ⊢
    split
    · rename_i ha
      rw[if_pos ha] at h3
      have hr:=AutI.row (hi.clos hf ha).1 (hi.clos hf ha).2 hi (g.terms.length+g.nons.length) (by have:=hf.terms; have:=hf.nons; omega)
      have he:=h.row hf hi ha (g.terms.length+g.nons.length) (by have:=hf.terms; have:=hf.nons; omega)
      rw[show (List.range (g.terms.length+g.nons.length)).foldl (stepA g (closD g (out.getD at_ noSt).ker) at_) out=rowA g at_ out (g.terms.length+g.nons.length) from rfl] at hr he
      split
      · rename_i hc; rw[if_pos hc] at h3; simp at h3
      · rename_i hc
        rw[if_neg hc] at h3
        exact loopA_edge hf f (at_+1) _ hr.1.next he.1 h3
    · exact h
theorem autoD_edge {g:Gram} (hf:g.Fine) (h:(autoD g).2=0):AutE g (autoD g).1:=by
  unfold autoD at h ⊢
  split
  · rename_i hr
    rw[if_pos hr] at h
    exact loopA_edge hf 302 0 startA startA_ok ⟨rfl,fun s hs e he=>by simp[startA] at hs; subst hs; simp at he⟩ h
  · rename_i hr
    rw[if_neg hr] at h
    simp at h
inductive PathA (a:List StP):List Int→List Int→Prop
  | nil:PathA a [] [0]
  | snoc {X st:List Int} {e:PEdg} : PathA a X st→e∈(a.getD (topS st).toNat noSt).edg→PathA a (X ++ [e.sym]) (st ++ [e.to])
theorem PathA.len {a:List StP} {X st:List Int} (h:PathA a X st):st.length=X.length+1:=by
  induction h with
  | nil=>rfl
  | snoc _ _ ih=>simp[ih]
theorem PathA.take {a:List StP} {X st:List Int} (h:PathA a X st):∀ k:Nat,k≤X.length→PathA a (X.take k) (st.take (k+1)):=by
  induction h with
  | nil =>
           intro k hk; have:k=0:=by simpa using hk
           subst this; exact .nil
  | @snoc X st e h he ih =>
    intro k hk
    have hl:=h.len
    simp only[List.length_append,List.length_cons,List.length_nil] at hk
    by_cases hk2:k≤X.length
    · rw[List.take_append_of_le_length hk2,List.take_append_of_le_length (by omega)]
      exact ih k hk2
    · rw[List.take_of_length_le (by simp; omega),List.take_of_length_le (by simp; omega)]
      exact .snoc h he
theorem edg_mem {a:List StP} {i:Nat} {e:PEdg} (h:e∈(a.getD i noSt).edg):i < a.length∧a.getD i noSt∈a:=by
  rcases Nat.lt_or_ge i a.length with hi | hi
  · exact ⟨hi,List.mem_of_getElem? (getD_some hi)⟩
  · rw[List.getD_eq_getElem?_getD,List.getElem?_eq_none hi] at h; simp at h
theorem PathA.top {g:Gram} {a:List StP} (ha:AutOk g a) (h1:1≤a.length) {X st:List Int} (h:PathA a X st):0≤topS st∧topS st < a.length:=by
  cases h with
  | nil=>simp[topS]; omega
  | snoc h he =>
    rw[topS_app]
    exact ha.to _ (edg_mem he).2 _ he
theorem CloM.ker {g:Gram} {l:List LrI} {x:LrI} (h:CloM g l x) (hd:x.dot≠0∨x.rule < 0):x∈l:=by
  cases h with
  | base h=>exact h
  | step=>simp at hd; omega
theorem item_back {g:Gram} (hf:g.Fine) {a:List StP} (ha:AutOk g a) (he:AutE g a) {X st:List Int} (hp:PathA a X st) (h1:1≤a.length):∀ (d:Nat) (x:LrI),x∈closD g (a.getD (topS st).toNat noSt).ker→x.dot=d →
    d≤X.length∧X.drop (X.length - d)=(rightLr g x.rule).take d∧(⟨x.rule,0⟩:LrI)∈closD g (a.getD (topS (st.take (st.length - d))).toNat noSt).ker:=by
  have hl:∀ i:Nat,i < a.length→∀ x∈(a.getD i noSt).ker,HasLr g x:=fun i hi=>(ha.ker _ (List.mem_of_getElem? (getD_some hi))).2.2
  induction hp with
  | nil =>
    intro d x hx hd
    have h0:=hl 0 (by omega)
    rw[show (topS [0]).toNat=0 from rfl] at hx
    have hc:=(mem_closD hf h0).1 hx
    cases d with
    | zero =>
      refine ⟨Nat.zero_le _,by simp,?_⟩
      rw[show (⟨x.rule,0⟩:LrI)=x by obtain ⟨r,q⟩:=x; simp only at hd; subst hd; rfl]
      exact hx
    | succ d =>
      have:=hc.ker (.inl (by omega))
      rw[he.first] at this
      simp at this
      subst this
      simp at hd; omega
  | @snoc X st e hp hm ih =>
    intro d x hx hd
    rw[topS_app] at hx
    obtain ⟨q1,q2⟩:=edg_mem hm
    obtain ⟨t1,t2⟩:=ha.to _ q2 _ hm
    have hlen:=hp.len
    cases d with
    | zero =>
      refine ⟨Nat.zero_le _,by simp,?_⟩
      rw[show (⟨x.rule,0⟩:LrI)=x by obtain ⟨r,q⟩:=x; simp only at hd; subst hd; rfl]
      rw[Nat.sub_zero,List.take_length,topS_app]
      exact hx
    | succ d =>
      have hx2:=((mem_closD hf (hl _ (by omega))).1 hx).ker (.inl (by omega))
      rw[he.edge _ q2 e hm] at hx2
      obtain ⟨y,hy,hn,rfl⟩:=mem_movD.1 hx2
      simp only at hd ⊢
      obtain ⟨i1,i2,i3⟩:=ih d y hy (by omega)
      have hyH:=((mem_closD hf (hl _ q1)).1 hy).has (hl _ q1)
      obtain ⟨n1,n2⟩:=nextLr_some hn
      have hyd:=hyH.2
      have hdt:y.dot.toNat=d:=by omega
      refine ⟨by simp; omega,?_,?_⟩
      · rw[List.drop_append_of_le_length (by simp),show (X ++ [e.sym]).length - (d+1)=X.length - d by simp,i2]
        have hlt:d < (rightLr g y.rule).length:=by omega
        rw[List.take_add_one,List.getElem?_eq_getElem hlt]
        rw[hdt,List.getD_eq_getElem?_getD,List.getElem?_eq_getElem hlt] at n2
        simp at n2
        simp[n2]
      · rw[show (st ++ [e.to]).length - (d+1)=st.length - d by simp,List.take_append_of_le_length (by omega)]
        exact i3
theorem start_back {g:Gram} (hf:g.Fine) {a:List StP} (ha:AutOk g a) (he:AutE g a) {X st:List Int} (hp:PathA a X st) (_:1≤a.length) (h:(⟨-1,0⟩:LrI)∈closD g (a.getD (topS st).toNat noSt).ker):X=[]:=by
  have hl:∀ i:Nat,i < a.length→∀ x∈(a.getD i noSt).ker,HasLr g x:=fun i hi=>(ha.ker _ (List.mem_of_getElem? (getD_some hi))).2.2
  cases hp with
  | nil=>rfl
  | @snoc X st e hp hm =>
    exfalso
    rw[topS_app] at h
    obtain ⟨q1,q2⟩:=edg_mem hm
    obtain ⟨t1,t2⟩:=ha.to _ q2 _ hm
    have hx2:=((mem_closD hf (hl _ (by omega))).1 h).ker (.inr (by simp))
    rw[he.edge _ q2 e hm] at hx2
    obtain ⟨y,hy,hn,e2⟩:=mem_movD.1 hx2
    have hyH:=((mem_closD hf (hl _ q1)).1 hy).has (hl _ q1)
    simp only[LrI.mk.injEq] at e2
    have:=hyH.2
    omega
def lastNeg (l:List Int):Nat→Int
  | 0=>-1
  | k+1=>if l.getD k 0 < 0 then k else lastNeg l k
def derF (g:Gram):List Int→List Int→Option (List Int)
  | [],form=>some form
  | r :: rs,form=>if r < 0∨(g.rules.length:Int)≤r then none
    else if lastNeg form form.length < 0 then none
    else if -1 - form.getD (lastNeg form form.length).toNat 0=(ruleD g r).left then derF g rs (form.take (lastNeg form form.length).toNat ++ (ruleD g r).right ++ form.drop ((lastNeg form form.length).toNat+1))
    else none
def derivesB (g:Gram) (rules w:List Int):Bool:=derF g rules [-1 - g.start] == some w
theorem lastNeg_is {Y R:List Int} {n:Int} (hn:n < 0) (hR:∀ x∈R,0≤x):lastNeg (Y ++ [n] ++ R) (Y ++ [n] ++ R).length=Y.length:=by
  have key:∀ k:Nat,Y.length < k→k≤(Y ++ [n] ++ R).length→lastNeg (Y ++ [n] ++ R) k=Y.length:=by
    intro k
    induction k with
    | zero=>intro h; omega
    | succ k ih =>
      intro h1 h2
      rw[lastNeg]
      by_cases e:k=Y.length
      · subst e
        rw[if_pos]
        simp[List.getD_eq_getElem?_getD,hn]
      · rw[if_neg,ih (by omega) (by omega)]
        simp only[List.length_append,List.length_cons,List.length_nil] at h2
        have h3:(Y ++ [n] ++ R).getD k 0=R.getD (k - (Y.length+1)) 0:=by
          simp only[List.getD_eq_getElem?_getD]
          rw[List.getElem?_append_right (by simp; omega)]
          simp
        rw[h3]
        have:=hR _ (List.mem_of_getElem? (getD_some (l:=R) (j:=k - (Y.length+1)) (d:=0) (by omega)))
        omega
  exact key _ (by simp) (Nat.le_refl _)
theorem edgeC_is {l:List PEdg} {s:Int} {c:Cell} (h:edgeC l s=some c):∃ e∈l,e.sym=s∧c=⟨1,e.to⟩:=by
  induction l with
  | nil=>simp[edgeC] at h
  | cons e l ih =>
    rw[edgeC] at h
    split at h
    · rename_i hs
      simp at h
      exact ⟨e,by simp,hs,h.symm⟩
    · obtain ⟨e2,h1,h2⟩:=ih h
      exact ⟨e2,by simp[h1],h2⟩
theorem edgeD_is {l:List PEdg} {s:Int} (h:0≤edgeD l s):∃ e∈l,e.sym=s∧edgeD l s=e.to:=by
  induction l with
  | nil=>simp[edgeD] at h
  | cons e l ih =>
    rw[edgeD] at h ⊢
    split
    · rename_i hs; exact ⟨e,by simp,hs,rfl⟩
    · rename_i hs
      rw[if_neg hs] at h
      obtain ⟨e2,h1,h2⟩:=ih h
      exact ⟨e2,by simp[h1],h2⟩
theorem shiftD_is (g:Gram) (s:StP) (t:Int):(∃ e∈s.edg,e.sym=t∧shiftD g s t=⟨1,e.to⟩)∨(t=g.terms.length∧(⟨-1,1⟩:LrI)∈s.ker∧shiftD g s t=⟨3,0⟩)∨shiftD g s t=⟨0,0⟩:=by
  unfold shiftD
  cases h:edgeC s.edg t with
  | some c =>
    obtain ⟨e,h1,h2,h3⟩:=edgeC_is h
    exact .inl ⟨e,h1,h2,h3⟩
  | none =>
    simp only
    split
    · rename_i hc; exact .inr (.inl ⟨hc.1,hc.2,rfl⟩)
    · exact .inr (.inr rfl)
theorem cellTb_is (g:Gram) (s:StP) (l:List PLook) (i t:Int):(∃ e∈s.edg,e.sym=t∧(cellTb g s l i t).1=⟨1,e.to⟩)∨(∃ p∈l,(cellTb g s l i t).1=⟨2,p.rule⟩)∨(t=g.terms.length∧(⟨-1,1⟩:LrI)∈s.ker∧(cellTb g s l i t).1=⟨3,0⟩)∨(cellTb g s l i t).1=⟨0,0⟩:=by
  have hs:=shiftD_is g s t
  unfold cellTb
  cases h:rulesD l t with
  | nil =>
    simp only
    rcases hs with h | h | h
    · exact .inl h
    · exact .inr (.inr (.inl h))
    · exact .inr (.inr (.inr h))
  | cons r rs =>
    have hr:r∈rulesD l t:=by rw[h]; simp
    simp only[rulesD,List.mem_map,List.mem_filter] at hr
    obtain ⟨p,⟨hp,_⟩,rfl⟩:=hr
    simp only
    split
    · exact .inr (.inl ⟨p,hp,rfl⟩)
    · simp only
      split
      · exact .inr (.inl ⟨p,hp,rfl⟩)
      · split
        · exact .inr (.inr (.inr rfl))
        · rcases hs with h | h | h
          · exact .inl h
          · exact .inr (.inr (.inl h))
          · exact .inr (.inr (.inr h))
theorem tabD_cell (g:Gram) (a:List StP) (l:List (List PLook)) {n:Nat} {s t:Int} (hs:0≤s∧s < n) (ht:0≤t∧t≤g.terms.length):cellA (tabD g a l n) s t=(cellTb g (a.getD s.toNat noSt) (l.getD s.toNat []) s t).1:=by
  unfold cellA tabD rowTb
  have e1:((s.toNat:Nat):Int)=s:=by omega
  have e2:((t.toNat:Nat):Int)=t:=by omega
  simp[List.getD_eq_getElem?_getD,show s.toNat < n by omega,show t.toNat < g.terms.length+1 by omega,e1,e2]
theorem tabD_goto (g:Gram) (a:List StP) (l:List (List PLook)) {n:Nat} {s k:Int} (hs:0≤s∧s < n) (hk:0≤k∧k < g.nons.length):gotoA (tabD g a l n) s k=gotoD a s k:=by
  unfold gotoA tabD gorD
  have e1:((s.toNat:Nat):Int)=s:=by omega
  have e2:((k.toNat:Nat):Int)=k:=by omega
  simp[List.getD_eq_getElem?_getD,show s.toNat < n by omega,show k.toNat < g.nons.length by omega,e1,e2]
theorem gotoD_is {a:List StP} {s k:Int} (hs:0≤s∧s < a.length) (h:gotoD a s k≠-1):∃ e∈(a.getD s.toNat noSt).edg,e.sym = -1 - k∧gotoD a s k=e.to:=by
  have e0:walkD a s [-1 - k]=walkS1 a s [-1 - k]:=by unfold walkD; rw[if_neg (by omega)]
  unfold gotoD at *
  rw[e0,walkS1] at h ⊢
  split
  · rename_i hc
    obtain ⟨e,h1,h2,h3⟩:=edgeD_is hc.1
    exact ⟨e,h1,h2,h3⟩
  · rename_i hc
    rw[if_neg hc] at h
    simp at h
theorem run_derives {g:Gram} (hf:g.Fine) {a:List StP} (ha:AutOk g a) (he:AutE g a) (h1:1≤a.length) {l:List (List PLook)}
    (hk:∀ i:Nat,∀ p∈l.getD i [],∃ x∈closD g (a.getD i noSt).ker,(nextLr g x).2=false∧0≤x.rule∧p.rule=x.rule) {w:List Int} (hw:∀ x∈w,0≤x∧x < (g.terms.length:Int)) :
    ∀ (k:Nat) (st rs:List Int) (at_:Nat) (X:List Int),PathA a X st→at_≤w.length→derF g rs.reverse (X ++ w.drop at_)=some w →
    ((runD g (tabD g a l a.length) w k st rs at_).2.2=0→(runD g (tabD g a l a.length) w k st rs at_).2.1=w.length∧derF g (runD g (tabD g a l a.length) w k st rs at_).1.reverse [-1 - g.start]=some w) ∧
    ((runD g (tabD g a l a.length) w k st rs at_).2.2≠0→(runD g (tabD g a l a.length) w k st rs at_).1=[]):=by
  have hlk:∀ i:Nat,i < a.length→∀ x∈(a.getD i noSt).ker,HasLr g x:=fun i hi=>(ha.ker _ (List.mem_of_getElem? (getD_some hi))).2.2
  intro k
  induction k with
  | zero =>
    intro st rs at_ X hp hat hd
    have htop:=hp.top ha h1
    have hah:=aheadT_in hw at_
    rw[runD_eq,tabD_cell g a l htop hah]
    split
    · rename_i hc
      refine ⟨fun _=>?_,fun h=>absurd rfl h⟩
      simp only
      obtain ⟨hc,rfl⟩:=hc
      refine ⟨rfl,?_⟩
      rcases cellTb_is g (a.getD (topS st).toNat noSt) (l.getD (topS st).toNat []) (topS st) (aheadT g w w.length) with ⟨e,_,_,h⟩ | ⟨p,_,h⟩ | ⟨_,hm,_⟩ | h
      · rw[h] at hc; simp at hc
      · rw[h] at hc; simp at hc
      · have hcl:=(mem_closD hf (hlk _ (by omega))).2 (.base hm)
        obtain ⟨b1,b2,b3⟩:=item_back hf ha he hp h1 1 _ hcl rfl
        have hlen:=hp.len
        have hX:=start_back hf ha he (hp.take (X.length - 1) (by omega)) h1 (by rw[show X.length - 1+1=st.length - 1 by omega]; exact b3)
        have hX1:X.length=1:=by
          have:=congrArg List.length hX
          simp at this; omega
        rw[hX1,Nat.sub_self,List.drop_zero] at b2
        rw[b2,List.drop_length,List.append_nil] at hd
        simpa [rightLr] using hd
      · rw[h] at hc; simp at hc
    · split
      · exact ⟨fun h=>by simp at h,fun _=>rfl⟩
      · exact ⟨fun h=>by simp at h,fun _=>rfl⟩
  | succ k ih =>
    intro st rs at_ X hp hat hd
    have htop:=hp.top ha h1
    have hah:=aheadT_in hw at_
    have hlen:=hp.len
    rw[runD_eq,tabD_cell g a l htop hah]
    have hcs:=cellTb_is g (a.getD (topS st).toNat noSt) (l.getD (topS st).toNat []) (topS st) (aheadT g w at_)
    generalize (cellTb g (a.getD (topS st).toNat noSt) (l.getD (topS st).toNat []) (topS st) (aheadT g w at_)).1=c at hcs ⊢
    split
    · rename_i hc
      refine ⟨fun _=>?_,fun h=>absurd rfl h⟩
      simp only
      obtain ⟨hc,rfl⟩:=hc
      refine ⟨rfl,?_⟩
      rcases hcs with ⟨e,_,_,h⟩ | ⟨p,_,h⟩ | ⟨_,hm,_⟩ | h
      · rw[h] at hc; simp at hc
      · rw[h] at hc; simp at hc
      · have hcl:=(mem_closD hf (hlk _ (by omega))).2 (.base hm)
        obtain ⟨b1,b2,b3⟩:=item_back hf ha he hp h1 1 _ hcl rfl
        have hX:=start_back hf ha he (hp.take (X.length - 1) (by omega)) h1 (by rw[show X.length - 1+1=st.length - 1 by omega]; exact b3)
        have hX1:X.length=1:=by
          have:=congrArg List.length hX
          simp at this; omega
        rw[hX1,Nat.sub_self,List.drop_zero] at b2
        rw[b2,List.drop_length,List.append_nil] at hd
        simpa [rightLr] using hd
      · rw[h] at hc; simp at hc
    · split
      · exact ⟨fun h=>by simp at h,fun _=>rfl⟩
      · rename_i hn1 hn2
        simp only
        rcases hcs with ⟨e,hm,hs,rfl⟩ | ⟨p,hm,rfl⟩ | ⟨_,_,rfl⟩ | rfl
        · rw[if_pos rfl]
          have hlt:at_ < w.length:=by
            rcases Nat.lt_or_ge at_ w.length with h | h
            · exact h
            · exact absurd (.inr (.inr ⟨rfl,by omega⟩)) hn2
          rw[aheadT,if_pos hlt] at hs
          refine ih _ _ _ _ (.snoc hp hm) hlt ?_
          rw[hs,List.append_assoc,List.singleton_append]
          rw[show w.getD at_ 0 :: w.drop (at_+1)=w.drop at_ by rw[List.drop_eq_getElem_cons hlt,List.getD_eq_getElem?_getD,List.getElem?_eq_getElem hlt]; rfl]
          exact hd
        · rw[if_neg (by simp)]
          obtain ⟨x,hx,hxn,hx0,hpr⟩:=hk _ p hm
          have hxH:=((mem_closD hf (hlk _ (by omega))).1 hx).has (hlk _ (by omega))
          have hxd:x.dot=(rightLr g x.rule).length:=by
            unfold nextLr at hxn
            split at hxn
            · assumption
            · simp at hxn
          obtain ⟨b1,b2,b3⟩:=item_back hf ha he hp h1 (rightLr g x.rule).length x hx hxd
          rw[List.take_length] at b2
          have hRr:rightLr g x.rule=(ruleD g p.rule).right:=by rw[rightLr,if_neg (by omega),hpr]
          rw[hRr] at b1 b2
          simp only
          rw[if_neg (by omega)]
          have hpt:=hp.take (X.length - (ruleD g p.rule).right.length) (by omega)
          rw[show X.length - (ruleD g p.rule).right.length+1=st.length - (ruleD g p.rule).right.length by omega] at hpt
          have htop2:=hpt.top ha h1
          have hR:g.rules[p.rule.toNat]?=some (ruleD g p.rule):=by unfold ruleD; exact getD_some (by have:=hxH.1; omega)
          have hL:=hf.left _ (List.mem_of_getElem? hR)
          rw[tabD_goto g a l htop2 hL]
          split
          · exact ⟨fun h=>by simp at h,fun _=>rfl⟩
          · rename_i hg
            obtain ⟨e,e1,e2,e3⟩:=gotoD_is htop2 hg
            rw[e3]
            refine ih _ _ _ _ (.snoc hpt e1) hat ?_
            rw[e2,List.reverse_append]
            simp only[List.reverse_cons,List.reverse_nil,List.nil_append,List.singleton_append]
            have hln:=lastNeg_is (Y:=X.take (X.length - (ruleD g p.rule).right.length)) (R:=w.drop at_) (n:=-1 - (ruleD g p.rule).left) (by omega) (fun x hx=>(hw x (List.mem_of_mem_drop hx)).1)
            rw[derF,if_neg (by have:=hxH.1; omega),hln,if_neg (by omega),Int.toNat_natCast,if_pos]
            · rw[← hd]
              congr 1
              have t1:(List.take (X.length - (ruleD g p.rule).right.length) X ++ [-1 - (ruleD g p.rule).left] ++ List.drop at_ w).take (List.take (X.length - (ruleD g p.rule).right.length) X).length=List.take (X.length - (ruleD g p.rule).right.length) X:=by
                rw[List.append_assoc,List.take_left]
              have t2:(List.take (X.length - (ruleD g p.rule).right.length) X ++ [-1 - (ruleD g p.rule).left] ++ List.drop at_ w).drop ((List.take (X.length - (ruleD g p.rule).right.length) X).length+1)=List.drop at_ w:=by
                have:=List.drop_left (l₁:=List.take (X.length - (ruleD g p.rule).right.length) X ++ [-1 - (ruleD g p.rule).left]) (l₂:=List.drop at_ w)
                rw[List.length_append,List.length_singleton] at this
                exact this
              rw[t1,t2]
              conv=>rhs; rw[← List.take_append_drop (X.length - (ruleD g p.rule).right.length) X,b2]
            · simp[List.getD_eq_getElem?_getD]
              omega
        · exact absurd (.inr (.inl rfl)) hn2
        · exact absurd (.inl rfl) hn2
end Gv
