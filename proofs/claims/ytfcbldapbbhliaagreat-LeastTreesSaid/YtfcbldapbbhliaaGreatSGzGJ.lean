/-
  Part 10 of the proof: what the machine does and what the functions answer.
  Conditions: those that each lemma names.
-/
import Derived.Test.YtfcbldapbbhliaaGreatSGzGI
set_option linter.unusedSimpArgs false
set_option linter.unusedVariables false

/-
  Heights and least rules: what the document's functions answer.
  Conditions: lists that are no longer than an int says, numbers that are ints.
-/
set_option linter.unusedSimpArgs false
set_option maxRecDepth 100000
namespace Gv
open Go Go.Proofs

def B_gerundref14_high_0 : SC :=
  .seq (.seq (.region false [⟨none, [((some 8), .op (.mov (.tmp 6))), ((some 9), .op (.addr 1 (.tmp 2))), ((some 10), .op (.load none (.tmp 9))), ((some 11), .op (.len (.tmp 10))), ((some 12), .op (.arith .lss (.tmp 8) (.tmp 11)))]⟩]) <|
  .cond (.tmp 12) (.skip) (.exit 0)) <|
  .seq (.block 1 (.seq (.seq (.region false [⟨none, [((some 15), .op (.addr 1 (.tmp 2))), ((some 16), .op (.load none (.tmp 15))), ((some 17), .op (.mov (.tmp 6))), ((some 18), .op (.idx 1 (.tmp 16) (.tmp 17))), ((some 19), .op (.load none (.tmp 18))), ((some 20), .op (.arith .geq (.tmp 19) (.val (.val (.int .i64 0)))))]⟩]) <|
  .cond (.tmp 20) (.exit 1) (.skip)) <|
  .seq (.region false [⟨none, [((some 21), .op (.mov (.tmp 1))), ((some 22), .op (.addr 1 (.tmp 2))), ((some 23), .op (.load none (.tmp 22))), ((some 24), .op (.mov (.tmp 6))), ((some 25), .op (.idx 1 (.tmp 23) (.tmp 24))), ((some 26), .op (.load none (.tmp 25))), ((some 27), .op (.arith .sub (.val (.val (.int .i64 (-1)))) (.tmp 26))), ((some 28), .op (.idx 1 (.tmp 21) (.tmp 27))), ((some 29), .op (.load none (.tmp 28))), ((some 7), .op (.mov (.tmp 29)))]⟩]) <|
  .seq (.seq (.region false [⟨none, [((some 30), .op (.mov (.tmp 7))), ((some 31), .op (.arith .eql (.tmp 30) (.val (.val (.int .i64 0)))))]⟩]) <|
  .cond (.tmp 31) (.seq (.region false [⟨none, [((some 4), .op (.mov (.val (.val (.int .i64 0)))))]⟩]) <|
  .ret) (.skip)) <|
  .region false [⟨none, [((some 32), .op (.mov (.tmp 5))), ((some 33), .op (.mov (.tmp 7))), ((some 34), .op (.mm true (.tmp 32) (.tmp 33))), ((some 5), .op (.mov (.tmp 34)))]⟩])) <|
  .region false [⟨none, [((some 13), .op (.mov (.tmp 6))), ((some 14), .op (.arith .add (.tmp 13) (.val (.val (.int .i64 1))))), ((some 6), .op (.mov (.tmp 14)))]⟩]
def S_gerundref14_high : SF := ⟨.seq (.region false [⟨none, [((some 2), .op (.frz (.tmp 0))), ((some 4), .op (.mov (.val (.val (.int .i64 0)))))]⟩]) <|
  .seq (.region false [⟨none, [((some 5), .op (.mov (.val (.val (.int .i64 0)))))]⟩]) <|
  .seq (.seq (.region false [⟨none, [((some 6), .op (.mov (.val (.val (.int .i64 0)))))]⟩]) <|
  .block 0 (.loop B_gerundref14_high_0)) <|
  .seq (.region false [⟨none, [((some 35), .op (.mov (.tmp 5))), ((some 36), .op (.arith .add (.tmp 35) (.val (.val (.int .i64 1))))), ((some 4), .op (.mov (.tmp 36)))]⟩]) <|
  .ret,
  [.tmp 4], 37⟩
theorem S_gerundref14_high_ok : compF Tryz.prog 58 [2] = some S_gerundref14_high := by kernel_rfl

def B_gerundref14_Heights_0 : SC :=
  .seq (.seq (.region false [⟨none, [((some 25), .op (.mov (.tmp 6))), ((some 26), .op (.addr 2 (.tmp 1))), ((some 27), .op (.load none (.tmp 26))), ((some 28), .op (.len (.tmp 27))), ((some 29), .op (.arith .lss (.tmp 25) (.tmp 28)))]⟩]) <|
  .cond (.tmp 29) (.skip) (.exit 2)) <|
  .seq (.block 3 (.seq (.region false [⟨none, [((some 32), .op (.addr 2 (.tmp 1))), ((some 33), .op (.load none (.tmp 32))), ((some 34), .op (.mov (.tmp 6))), ((some 35), .op (.idx 3 (.tmp 33) (.tmp 34))), ((some 36), .op (.load (some 3) (.tmp 35))), ((some 7), .op (.alloc [(.val (.int .i64 0)), (.emp 1), (.val (.int .i64 0))])), (none, .op (.store 3 (.tmp 7) (.tmp 36)))]⟩]) <|
  .seq (.region false [⟨none, [((some 37), .op (.mov (.tmp 3))), ((some 38), .op (.addr 0 (.tmp 7))), ((some 39), .op (.load none (.tmp 38))), ((some 40), .op (.idx 1 (.tmp 37) (.tmp 39))), ((some 41), .op (.load none (.tmp 40))), ((some 42), .op (.arith .eql (.tmp 41) (.val (.val (.int .i64 0))))), ((some 43), .op (.mov (.tmp 42)))]⟩, ⟨(some (43, true)), [((some 44), .op (.load (some 3) (.tmp 7))), ((some 45), .op (.mov (.tmp 5))), ((some 46), .call (.val (.fn 58 [] [])) [(.tmp 44), (.tmp 45)]), ((some 47), .op (.mov (.tmp 4))), ((some 48), .op (.arith .eql (.tmp 46) (.tmp 47)))]⟩, ⟨none, [((some 49), .op (.pick (.tmp 43) (.tmp 48) (.val (.val (.bool false)))))]⟩]) <|
  .cond (.tmp 49) (.region false [⟨none, [((some 50), .op (.mov (.tmp 3))), ((some 51), .op (.addr 0 (.tmp 7))), ((some 52), .op (.load none (.tmp 51))), ((some 53), .op (.mov (.tmp 4))), ((some 54), .op (.idx 1 (.tmp 50) (.tmp 52))), (none, .op (.store 1 (.tmp 54) (.tmp 53)))]⟩]) (.skip))) <|
  .region false [⟨none, [((some 30), .op (.mov (.tmp 6))), ((some 31), .op (.arith .add (.tmp 30) (.val (.val (.int .i64 1))))), ((some 6), .op (.mov (.tmp 31)))]⟩]
def B_gerundref14_Heights_1 : SC :=
  .seq (.seq (.region false [⟨none, [((some 15), .op (.mov (.tmp 4))), ((some 16), .op (.addr 1 (.tmp 1))), ((some 17), .op (.load none (.tmp 16))), ((some 18), .op (.len (.tmp 17))), ((some 19), .op (.arith .leq (.tmp 15) (.tmp 18)))]⟩]) <|
  .cond (.tmp 19) (.skip) (.exit 0)) <|
  .seq (.block 1 (.seq (.region false [⟨none, [((some 22), .op (.mov (.val (.emp 2)))), ((some 23), .op (.mov (.tmp 3))), ((some 24), .op (.app 1 8 (.tmp 22) (.tmp 23))), ((some 5), .op (.mov (.tmp 24)))]⟩]) <|
  .seq (.region false [⟨none, [((some 6), .op (.mov (.val (.val (.int .i64 0)))))]⟩]) <|
  .block 2 (.loop B_gerundref14_Heights_0))) <|
  .region false [⟨none, [((some 20), .op (.mov (.tmp 4))), ((some 21), .op (.arith .add (.tmp 20) (.val (.val (.int .i64 1))))), ((some 4), .op (.mov (.tmp 21)))]⟩]
def S_gerundref14_Heights : SF := ⟨.seq (.region false [⟨none, [((some 1), .op (.frz (.tmp 0))), ((some 2), .op (.mov (.val (.emp 1))))]⟩]) <|
  .seq (.seq (.region false [⟨none, [((some 8), .op (.load (some 4) (.tmp 1))), ((some 9), .call (.val (.fn 28 [] [])) [(.tmp 8)]), ((some 10), .op (.not (.tmp 9)))]⟩]) <|
  .cond (.tmp 10) (.seq (.region false [⟨none, [((some 2), .op (.mov (.val (.emp 1))))]⟩]) <|
  .ret) (.skip)) <|
  .seq (.region false [⟨none, [((some 11), .op (.addr 1 (.tmp 1))), ((some 12), .op (.load none (.tmp 11))), ((some 13), .op (.len (.tmp 12))), ((some 14), .op (.make 1 8 [(.val (.int .i64 0))] (.tmp 13) (.tmp 13))), ((some 3), .op (.mov (.tmp 14)))]⟩]) <|
  .seq (.seq (.region false [⟨none, [((some 4), .op (.mov (.val (.val (.int .i64 1)))))]⟩]) <|
  .block 0 (.loop B_gerundref14_Heights_1)) <|
  .seq (.region false [⟨none, [((some 55), .op (.mov (.tmp 3))), ((some 2), .op (.mov (.tmp 55)))]⟩]) <|
  .ret,
  [.tmp 2], 56⟩
theorem S_gerundref14_Heights_ok : compF Tryz.prog 33 [1] = some S_gerundref14_Heights := by kernel_rfl

theorem hAt_get {h : List Int} {m : Nat} (hm : m < h.length) : h[m]? = some (hAt h m) := by simp [hAt, List.getD_eq_getElem?_getD, hm]
theorem lent_intsL {H : View} {id n : Nat} {l : List Int} (hv : H id = .arr 1 (intsE l)) (hn : n = l.length) : Lent H (.sl id 0 n 1) (encI l) := by
  subst hn
  exact Lent.own (sz := 1) (.inr ⟨id, by simp, hv⟩) fun e he v hv => by
    obtain ⟨x, _, rfl⟩ := List.mem_map.1 he
    simp at hv; subst hv; exact .val _
theorem intsE_set (l : List Int) (i : Nat) (x : Int) : (intsE l).set i [gi x] = intsE (l.set i x) := by simp [List.map_set]
theorem intsE_get {h : List Int} {m : Nat} (hm : m < h.length) : (intsE h).getD m [] = [gi (hAt h m)] := by simp [hAt, List.getD_eq_getElem?_getD, hm]

def HsOk (h : List Int) : Prop := ∀ m, 0 ≤ hAt h m ∧ hAt h m ≤ 1000
theorem hs_stage {g : Gram} (hr : g.rules.length ≤ 40) {k : Nat} (hk : k ≤ 16) : HsOk (hgts (stageP g k)) := fun m => by
  rw [hAt_map]
  by_cases h : Known (stageP g k) m
  · obtain ⟨a, b, _⟩ := stage_height g k m h
    omega
  · rw [stage_un h]; unfold noP; decide

set_option maxHeartbeats 2000000 in
theorem pc_high14 (r : Rule) (h : List Int) (hh : HsOk h) (hl : RuleIn h.length r) : PCall Tryz.prog 58 [.agg (encR r), encI h] (gi (highD h r.right 0)) := by
  obtain ⟨_, _, _, hl6, hs⟩ := hl
  refine PCall.val (by
    intro v hv; simp at hv
    rcases hv with rfl | rfl
    · exact tree_agg _ (encR_tree r)
    · exact encI_tree h) fun H => ?_
  refine MCall.of mixed S_gerundref14_high_ok ?_
  simp (disch := omega) only [↓wr, ↓reduceIte, wq, eq_self, ne_eq, implies_true, oneV, intOp, goI, splice, sBuild, fillE, nilB, isNil, Nat.reduceEqDiff, Nat.reduceAdd, Nat.reduceLT, Nat.reduceLeDiff, Int.reduceNeg, Int.reduceToNat, reduceCtorEq, decide_true, decide_false, S_gerundref14_high, encR, encI]
  refine LoopG.up r.right.length (fun i T H' => ∃ top : Int, 0 ≤ top ∧ top ≤ 1000 ∧ highD h (r.right.drop i) top = highD h r.right 0 ∧ T 1 = encI h ∧ T 2 = .fptr (encR r) 0 ∧ T 5 = gi top ∧ T 6 = gi i) ⟨0, by omega, by omega, rfl, rfl, rfl, rfl, rfl⟩ ?_
  rintro i k T H hk ⟨top, h0, h1, hd, t1, t2, t5, t6⟩
  simp (disch := omega) only [↓wr, ↓reduceIte, wq, eq_self, ne_eq, implies_true, oneV, intOp, goI, splice, sBuild, fillE, nilB, isNil, Nat.reduceEqDiff, Nat.reduceAdd, Nat.reduceLT, Nat.reduceLeDiff, Int.reduceNeg, Int.reduceToNat, reduceCtorEq, decide_true, decide_false, B_gerundref14_high_0, t1, t2, t5, t6, encR, encI]
  refine GoB.dec (fun hc => ?_) (fun hc => ?_)
  · have hg : r.right[i]? = some (r.right[i]'(by omega)) := List.getElem?_eq_getElem (by omega)
    have hmem : r.right[i]'(by omega) ∈ r.right := List.getElem_mem _
    rw [drop_at (show i < r.right.length by omega)] at hd
    generalize r.right[i]'(by omega) = x at hg hmem hd
    obtain ⟨⟨hx1, hx2⟩, hx3⟩ := hs x hmem
    simp (disch := omega) only [↓wr, ↓reduceIte, wq, eq_self, ne_eq, implies_true, oneV, intOp, goI, splice, sBuild, fillE, nilB, isNil, Nat.reduceEqDiff, Nat.reduceAdd, Nat.reduceLT, Nat.reduceLeDiff, Int.reduceNeg, Int.reduceToNat, reduceCtorEq, decide_true, decide_false, t1, t2, t5, t6, encR, encI, List.getElem?_map, hg]
    refine GoB.dec (fun hx => ?_) (fun hx => ?_)
    · simp (disch := omega) only [↓wr, ↓reduceIte, wq, eq_self, ne_eq, implies_true, oneV, intOp, goI, splice, sBuild, fillE, nilB, isNil, Nat.reduceEqDiff, Nat.reduceAdd, Nat.reduceLT, Nat.reduceLeDiff, Int.reduceNeg, Int.reduceToNat, reduceCtorEq, decide_true, decide_false, t1, t2, t5, t6, encR, encI]
      rw [highD, if_pos (show 0 ≤ x from hx)] at hd
      exact up_next hk (by omega) ⟨top, h0, h1, hd, t1, t2, t5, rfl⟩
    · have hm : nonN x < h.length := by have := hx3 (by omega); unfold nonN; omega
      have hgm := hAt_get hm
      have hb := hh (nonN x)
      rw [highD, if_neg hx] at hd
      generalize hAt h (nonN x) = v at hgm hb hd
      simp (disch := omega) only [↓wr, ↓reduceIte, wq, eq_self, ne_eq, implies_true, oneV, intOp, goI, splice, sBuild, fillE, nilB, isNil, Nat.reduceEqDiff, Nat.reduceAdd, Nat.reduceLT, Nat.reduceLeDiff, Int.reduceNeg, Int.reduceToNat, reduceCtorEq, decide_true, decide_false, t1, t2, t5, t6, encR, encI, List.getElem?_map, hg, hgm]
      refine GoB.eq (fun hv => ?_) (fun hv => ?_)
      · simp (disch := omega) only [↓wr, ↓reduceIte, wq, eq_self, ne_eq, implies_true, oneV, intOp, goI, splice, sBuild, fillE, nilB, isNil, Nat.reduceEqDiff, Nat.reduceAdd, Nat.reduceLT, Nat.reduceLeDiff, Int.reduceNeg, Int.reduceToNat, reduceCtorEq, decide_true, decide_false, t1, t2, t5, t6]
        rw [if_pos hv] at hd
        rw [← hd]
      · simp (disch := omega) only [↓wr, ↓reduceIte, wq, eq_self, ne_eq, implies_true, oneV, intOp, goI, splice, sBuild, fillE, nilB, isNil, Nat.reduceEqDiff, Nat.reduceAdd, Nat.reduceLT, Nat.reduceLeDiff, Int.reduceNeg, Int.reduceToNat, reduceCtorEq, decide_true, decide_false, t1, t2, t5, t6, max_mm]
        rw [if_neg hv] at hd
        exact up_next hk (by omega) ⟨_, by omega, by omega, hd, t1, t2, rfl, rfl⟩
  · simp (disch := omega) only [↓wr, ↓reduceIte, wq, eq_self, ne_eq, implies_true, oneV, intOp, goI, splice, sBuild, fillE, nilB, isNil, Nat.reduceEqDiff, Nat.reduceAdd, Nat.reduceLT, Nat.reduceLeDiff, Int.reduceNeg, Int.reduceToNat, reduceCtorEq, decide_true, decide_false, t1, t2, t5, t6]
    rw [List.drop_eq_nil_of_le (by omega), highD] at hd
    rw [hd]

/-- What holds within a round of heights. -/
def HgtI (g : Gram) (old : List Int) (k : Int) (b d i : Nat) (T : Env) (H : View) : Prop :=
  ∃ out : List Int, out.length = g.nons.length ∧ (g.rules.drop i).foldl (stepHt old k) out = g.rules.foldl (stepHt old k) old ∧ b ≠ d ∧ H b = .arr 1 (intsE out) ∧ H d = .arr 1 (intsE old) ∧
    T 1 = .fptr (encG g) 0 ∧ T 3 = .sl b 0 g.nons.length 1 ∧ T 4 = gi k ∧ T 5 = .sl d 0 g.nons.length 1 ∧ T 6 = gi i

set_option maxHeartbeats 4000000 in
theorem pn_Heights14 (g : Gram) (hg : g.Ok) : PNew Tryz.prog 33 [.agg (encG g)] (encI (if right09 g = true then hgts (plansG g) else [])) := by
  refine PNew.of (gg_tree g) ?_
  refine MCall.of mixed S_gerundref14_Heights_ok ?_
  have hn := hg.nons
  unfold Short at hn
  simp (disch := omega) only [↓wr, ↓reduceIte, wq, eq_self, ne_eq, implies_true, oneV, intOp, goI, splice, sBuild, fillE, nilB, isNil, Nat.reduceEqDiff, Nat.reduceAdd, Nat.reduceLT, Nat.reduceLeDiff, Int.reduceNeg, Int.reduceToNat, reduceCtorEq, decide_true, decide_false, S_gerundref14_Heights, encG, encS]
  refine CallG.pure (pc_Right09 g hg) (by kernel_rfl) ?_
  repeat' (first | (refine GoB.dec (fun _ => ?_) (fun _ => ?_)) | (refine GoB.eq (fun _ => ?_) (fun _ => ?_)) | (refine GoB.ne (fun _ => ?_) (fun _ => ?_)) | (refine GoB.split (fun _ => ?_) (fun _ => ?_)) | (simp (disch := omega) only [↓wr, ↓reduceIte, wq, eq_self, ne_eq, implies_true, oneV, intOp, goI, splice, sBuild, fillE, nilB, isNil, Nat.reduceEqDiff, Nat.reduceAdd, Nat.reduceLT, Nat.reduceLeDiff, Int.reduceNeg, Int.reduceToNat, reduceCtorEq, decide_true, decide_false, encG, encS]))
  · rename_i hr
    have hf := right09_fine hr
    have z1 := hf.nons1
    have z2 := hf.nons
    have z3 := hf.rules
    rw [if_pos hr]
    try simp (disch := omega) only [↓wr, ↓reduceIte, wq, eq_self, ne_eq, implies_true, oneV, intOp, goI, splice, sBuild, fillE, nilB, isNil, Nat.reduceEqDiff, Nat.reduceAdd, Nat.reduceLT, Nat.reduceLeDiff, Int.reduceNeg, Int.reduceToNat, reduceCtorEq, decide_true, decide_false, encG, encS]
    refine ⟨⟨by omega, by unfold limit; omega, by unfold limit; omega⟩, fun h => by omega, ?_⟩
    intro _ b
    try simp (disch := omega) only [↓wr, ↓reduceIte, wq, eq_self, ne_eq, implies_true, oneV, intOp, goI, splice, sBuild, fillE, nilB, isNil, Nat.reduceEqDiff, Nat.reduceAdd, Nat.reduceLT, Nat.reduceLeDiff, Int.reduceNeg, Int.reduceToNat, reduceCtorEq, decide_true, decide_false, encG, encS]
    refine LoopG.up g.nons.length (fun j T H' => H' b = .arr 1 (intsE (hgts (stageP g j))) ∧ T 1 = .fptr (encG g) 0 ∧ T 3 = .sl b 0 g.nons.length 1 ∧ T 4 = gi ((j : Int) + 1)) ?_ ?_
    · refine ⟨?_, rfl, rfl, rfl⟩
      simp [View.set, stageP, iter, noP]
    rintro j k T H hk ⟨hb, t1, t3, t4⟩
    simp (disch := omega) only [↓wr, ↓reduceIte, wq, eq_self, ne_eq, implies_true, oneV, intOp, goI, splice, sBuild, fillE, nilB, isNil, Nat.reduceEqDiff, Nat.reduceAdd, Nat.reduceLT, Nat.reduceLeDiff, Int.reduceNeg, Int.reduceToNat, reduceCtorEq, decide_true, decide_false, B_gerundref14_Heights_1, t1, t3, t4, encG, encS]
    refine GoB.dec (fun hc => ?_) (fun hc => ?_)
    · have hlen := stage_len g j
      obtain ⟨nl, hnl⟩ : ∃ nl, g.nons.length = nl + 1 := ⟨g.nons.length - 1, by omega⟩
      have he : elemsOf H (.sl b 0 g.nons.length 1) = some (intsE (hgts (stageP g j)), [b]) := by
        rw [hnl, elemsOf_sl _ b 0 nl 1 1 _ hb (by simp [hlen, hnl]), List.drop_zero, List.take_of_length_le (by simp [hlen, hnl])]
      have hne : (intsE (hgts (stageP g j))).isEmpty = false := by
        cases hx : stageP g j with
        | nil => rw [hx] at hlen; simp at hlen; omega
        | cons => rfl
      simp (disch := omega) only [↓wr, ↓reduceIte, wq, eq_self, ne_eq, implies_true, oneV, intOp, goI, splice, sBuild, fillE, nilB, isNil, Nat.reduceEqDiff, Nat.reduceAdd, Nat.reduceLT, Nat.reduceLeDiff, Int.reduceNeg, Int.reduceToNat, reduceCtorEq, decide_true, decide_false, t1, t3, t4, he, goApp_emp _ _ _ _ _ _ _ hne, hlen]
      refine ⟨by simp [List.all_map, cellOk], ⟨by unfold limit; omega, by unfold limit; omega⟩, fun d hd => ?_⟩
      have hbd : b ≠ d := by rintro rfl; rw [hb] at hd; simp at hd
      refine LoopG.up g.rules.length (HgtI g (hgts (stageP g j)) ((j : Int) + 1) b d) ⟨hgts (stageP g j), by simp [hlen], rfl, hbd, by simp [View.set, hbd, hb], by simp [View.set], t1, t3, t4, rfl, rfl⟩ ?_
      clear t1 t3 t4 hb he hd
      rintro i q T H hq ⟨out, hol, hfold, _, hb, hd, t1, t3, t4, t5, t6⟩
      simp (disch := omega) only [↓wr, ↓reduceIte, wq, eq_self, ne_eq, implies_true, oneV, intOp, goI, splice, sBuild, fillE, nilB, isNil, Nat.reduceEqDiff, Nat.reduceAdd, Nat.reduceLT, Nat.reduceLeDiff, Int.reduceNeg, Int.reduceToNat, reduceCtorEq, decide_true, decide_false, B_gerundref14_Heights_0, t1, t3, t4, t5, t6, encG]
      refine GoB.dec (fun hc2 => ?_) (fun hc2 => ?_)
      · have hg2 : g.rules[i]? = some (g.rules[i]'(by omega)) := List.getElem?_eq_getElem (by omega)
        have hmem : g.rules[i]'(by omega) ∈ g.rules := List.getElem_mem _
        rw [drop_at (show i < g.rules.length by omega), List.foldl_cons] at hfold
        generalize g.rules[i]'(by omega) = r at hg2 hmem hfold
        have hri := hf.ruleIn hg hmem
        have hl := hf.left r hmem
        have hgo := intsE_get (h := out) (m := r.left.toNat) (by omega)
        have hso := hs_stage (g := g) z3 (show j ≤ 16 by omega)
        have hhl : (hgts (stageP g j)).length = g.nons.length := by simp [hlen]
        unfold stepHt at hfold
        generalize hgts (stageP g j) = old at hd hso hhl hfold ⊢
        simp (disch := omega) only [↓wr, ↓reduceIte, wq, eq_self, ne_eq, implies_true, oneV, intOp, goI, splice, sBuild, fillE, nilB, isNil, Nat.reduceEqDiff, Nat.reduceAdd, Nat.reduceLT, Nat.reduceLeDiff, Int.reduceNeg, Int.reduceToNat, reduceCtorEq, decide_true, decide_false, t1, t3, t4, t5, t6, encG, encR, encI, List.getElem?_map, hg2]
        intro n hn
        have hnb : b ≠ n := by rintro rfl; rw [hb] at hn; simp at hn
        have hnd : d ≠ n := by rintro rfl; rw [hd] at hn; simp at hn
        try simp (disch := omega) only [↓wr, ↓reduceIte, wq, eq_self, ne_eq, implies_true, oneV, intOp, goI, splice, sBuild, fillE, nilB, isNil, Nat.reduceEqDiff, Nat.reduceAdd, Nat.reduceLT, Nat.reduceLeDiff, Int.reduceNeg, Int.reduceToNat, reduceCtorEq, decide_true, decide_false, t1, t3, t4, t5, t6, encG, encR, encI, hb, hnb, hnb.symm, hgo]
        refine ⟨by omega, by omega, ?_⟩
        refine GoB.eq (fun hz => ?_) (fun hz => ?_)
        · simp (disch := omega) only [↓wr, ↓reduceIte, wq, eq_self, ne_eq, implies_true, oneV, intOp, goI, splice, sBuild, fillE, nilB, isNil, Nat.reduceEqDiff, Nat.reduceAdd, Nat.reduceLT, Nat.reduceLeDiff, Int.reduceNeg, Int.reduceToNat, reduceCtorEq, decide_true, decide_false, t1, t3, t4, t5, t6, encG, encR, encI, hb, hnb, hnb.symm, hgo]
          refine CallG.lend (pc_high14 r old hso (by rw [hhl]; exact hri)) (by kernel_rfl) (.val _) ⟨Lent.tree (tree_agg _ (encR_tree r)), lent_intsL (l := old) (by simp [View.set, hnd, hd]) hhl.symm, trivial⟩ ?_
          simp (disch := omega) only [↓wr, ↓reduceIte, wq, eq_self, ne_eq, implies_true, oneV, intOp, goI, splice, sBuild, fillE, nilB, isNil, Nat.reduceEqDiff, Nat.reduceAdd, Nat.reduceLT, Nat.reduceLeDiff, Int.reduceNeg, Int.reduceToNat, reduceCtorEq, decide_true, decide_false, t1, t3, t4, t5, t6, encG, encR, encI, hb, hnb, hnb.symm, hgo]
          refine GoB.eq (fun hh => ?_) (fun hh => ?_)
          · simp (disch := omega) only [↓wr, ↓reduceIte, wq, eq_self, ne_eq, implies_true, oneV, intOp, goI, splice, sBuild, fillE, nilB, isNil, Nat.reduceEqDiff, Nat.reduceAdd, Nat.reduceLT, Nat.reduceLeDiff, Int.reduceNeg, Int.reduceToNat, reduceCtorEq, decide_true, decide_false, t1, t3, t4, t5, t6, encG, encR, encI, hb, hnb, hnb.symm, hgo]
            refine ⟨by omega, by omega, ?_⟩
            rw [if_pos ⟨hz, hh⟩] at hfold
            refine up_next hq (by omega) ⟨_, by simp [hol], hfold, hbd, ?_, by simp [View.set, hbd.symm, hnd, hd], t1, t3, t4, t5, rfl⟩
            simp only [View.set, if_true]
            rw [← intsE_set]
          · simp (disch := omega) only [↓wr, ↓reduceIte, wq, eq_self, ne_eq, implies_true, oneV, intOp, goI, splice, sBuild, fillE, nilB, isNil, Nat.reduceEqDiff, Nat.reduceAdd, Nat.reduceLT, Nat.reduceLeDiff, Int.reduceNeg, Int.reduceToNat, reduceCtorEq, decide_true, decide_false, t1, t3, t4, t5, t6, encG, encR, encI, hb, hnb, hnb.symm, hgo]
            rw [if_neg (fun e => hh e.2)] at hfold
            exact up_next hq (by omega) ⟨out, hol, hfold, hbd, by simp [View.set, hnb, hb], by simp [View.set, hnd, hd], t1, t3, t4, t5, rfl⟩
        · simp (disch := omega) only [↓wr, ↓reduceIte, wq, eq_self, ne_eq, implies_true, oneV, intOp, goI, splice, sBuild, fillE, nilB, isNil, Nat.reduceEqDiff, Nat.reduceAdd, Nat.reduceLT, Nat.reduceLeDiff, Int.reduceNeg, Int.reduceToNat, reduceCtorEq, decide_true, decide_false, t1, t3, t4, t5, t6, encG, encR, encI, hb, hnb, hnb.symm, hgo]
          rw [if_neg (fun e => hz e.1)] at hfold
          exact up_next hq (by omega) ⟨out, hol, hfold, hbd, by simp [View.set, hnb, hb], by simp [View.set, hnd, hd], t1, t3, t4, t5, rfl⟩
      · simp (disch := omega) only [↓wr, ↓reduceIte, wq, eq_self, ne_eq, implies_true, oneV, intOp, goI, splice, sBuild, fillE, nilB, isNil, Nat.reduceEqDiff, Nat.reduceAdd, Nat.reduceLT, Nat.reduceLeDiff, Int.reduceNeg, Int.reduceToNat, reduceCtorEq, decide_true, decide_false, t1, t3, t4, t5, t6]
        rw [List.drop_eq_nil_of_le (by omega), List.foldl_nil, roundHt] at hfold
        rw [hfold] at hb
        exact up_next hk (by omega) ⟨hb, t1, t3, rfl⟩
    · simp (disch := omega) only [↓wr, ↓reduceIte, wq, eq_self, ne_eq, implies_true, oneV, intOp, goI, splice, sBuild, fillE, nilB, isNil, Nat.reduceEqDiff, Nat.reduceAdd, Nat.reduceLT, Nat.reduceLeDiff, Int.reduceNeg, Int.reduceToNat, reduceCtorEq, decide_true, decide_false, t1, t3, t4]
      intro h' hh
      have : j = g.nons.length := by omega
      subst this
      exact frn_ints (by rw [hh]; exact .inr ⟨b, by simp [plans_len], hb⟩)
  · rename_i hr
    rw [hr]
    intro h' hh
    exact .emp _

def B_gerundref14_Rules_0 : SC :=
  .seq (.seq (.region false [⟨none, [((some 20), .op (.mov (.tmp 7))), ((some 21), .op (.arith .geq (.tmp 20) (.val (.val (.int .i64 0)))))]⟩]) <|
  .cond (.tmp 21) (.skip) (.exit 2)) <|
  .seq (.block 3 (.seq (.region true [⟨none, [((some 24), .op (.addr 2 (.tmp 1))), ((some 25), .op (.load none (.tmp 24))), ((some 26), .op (.mov (.tmp 7))), ((some 27), .op (.idx 3 (.tmp 25) (.tmp 26))), ((some 28), .op (.addr 0 (.tmp 27))), ((some 29), .op (.load none (.tmp 28))), ((some 30), .op (.mov (.tmp 5))), ((some 31), .op (.arith .eql (.tmp 29) (.tmp 30))), ((some 32), .op (.mov (.tmp 31)))]⟩, ⟨(some (32, true)), [((some 33), .op (.mov (.tmp 3))), ((some 34), .op (.mov (.tmp 5))), ((some 35), .op (.idx 1 (.tmp 33) (.tmp 34))), ((some 36), .op (.load none (.tmp 35))), ((some 37), .op (.arith .gtr (.tmp 36) (.val (.val (.int .i64 0)))))]⟩, ⟨none, [((some 38), .op (.pick (.tmp 32) (.tmp 37) (.val (.val (.bool false))))), ((some 39), .op (.mov (.tmp 38)))]⟩, ⟨(some (39, true)), [((some 40), .op (.addr 2 (.tmp 1))), ((some 41), .op (.load none (.tmp 40))), ((some 42), .op (.mov (.tmp 7))), ((some 43), .op (.idx 3 (.tmp 41) (.tmp 42))), ((some 44), .op (.load (some 3) (.tmp 43))), ((some 45), .op (.mov (.tmp 3))), ((some 46), .call (.val (.fn 58 [] [])) [(.tmp 44), (.tmp 45)]), ((some 47), .op (.mov (.tmp 3))), ((some 48), .op (.mov (.tmp 5))), ((some 49), .op (.idx 1 (.tmp 47) (.tmp 48))), ((some 50), .op (.load none (.tmp 49))), ((some 51), .op (.arith .eql (.tmp 46) (.tmp 50)))]⟩, ⟨none, [((some 52), .op (.pick (.tmp 39) (.tmp 51) (.val (.val (.bool false)))))]⟩]) <|
  .cond (.tmp 52) (.region false [⟨none, [((some 53), .op (.mov (.tmp 7))), ((some 6), .op (.mov (.tmp 53)))]⟩]) (.skip))) <|
  .region false [⟨none, [((some 22), .op (.mov (.tmp 7))), ((some 23), .op (.arith .sub (.tmp 22) (.val (.val (.int .i64 1))))), ((some 7), .op (.mov (.tmp 23)))]⟩]
def B_gerundref14_Rules_1 : SC :=
  .seq (.seq (.region false [⟨none, [((some 10), .op (.mov (.tmp 5))), ((some 11), .op (.mov (.tmp 3))), ((some 12), .op (.len (.tmp 11))), ((some 13), .op (.arith .lss (.tmp 10) (.tmp 12)))]⟩]) <|
  .cond (.tmp 13) (.skip) (.exit 0)) <|
  .seq (.block 1 (.seq (.region false [⟨none, [((some 6), .op (.mov (.val (.val (.int .i64 (-1))))))]⟩]) <|
  .seq (.seq (.region false [⟨none, [((some 16), .op (.addr 2 (.tmp 1))), ((some 17), .op (.load none (.tmp 16))), ((some 18), .op (.len (.tmp 17))), ((some 19), .op (.arith .sub (.tmp 18) (.val (.val (.int .i64 1))))), ((some 7), .op (.mov (.tmp 19)))]⟩]) <|
  .block 2 (.loop B_gerundref14_Rules_0)) <|
  .region false [⟨none, [((some 54), .op (.mov (.tmp 4))), ((some 55), .op (.mov (.tmp 6))), ((some 56), .op (.bslice 1 1 [(.val (.int .i64 0))] [(0, (.tmp 55))])), ((some 57), .op (.app 1 8 (.tmp 54) (.tmp 56))), ((some 4), .op (.mov (.tmp 57)))]⟩])) <|
  .region false [⟨none, [((some 14), .op (.mov (.tmp 5))), ((some 15), .op (.arith .add (.tmp 14) (.val (.val (.int .i64 1))))), ((some 5), .op (.mov (.tmp 15)))]⟩]
def S_gerundref14_Rules : SF := ⟨.seq (.region false [⟨none, [((some 1), .op (.frz (.tmp 0))), ((some 2), .op (.mov (.val (.emp 1))))]⟩]) <|
  .seq (.region false [⟨none, [((some 8), .op (.load (some 4) (.tmp 1))), ((some 9), .call (.val (.fn 33 [] [])) [(.tmp 8)]), ((some 3), .op (.mov (.tmp 9)))]⟩]) <|
  .seq (.region false [⟨none, [((some 4), .op (.mov (.val (.emp 1))))]⟩]) <|
  .seq (.seq (.region false [⟨none, [((some 5), .op (.mov (.val (.val (.int .i64 0)))))]⟩]) <|
  .block 0 (.loop B_gerundref14_Rules_1)) <|
  .seq (.region false [⟨none, [((some 58), .op (.mov (.tmp 4))), ((some 2), .op (.mov (.tmp 58)))]⟩]) <|
  .ret,
  [.tmp 2], 59⟩
theorem S_gerundref14_Rules_ok : compF Tryz.prog 35 [1] = some S_gerundref14_Rules := by kernel_rfl

theorem bestD_cons {h : List Int} {m : Nat} {l : List Rule} {c : Nat} {r : Rule} (hr : l[c]? = some r) : bestD h m (l.drop c) c = if r.left = (m : Int) ∧ 0 < hAt h m ∧ highD h r.right 0 = hAt h m then (c : Int) else bestD h m (l.drop (c + 1)) ((c : Int) + 1) := by
  have hc : c < l.length := (List.getElem?_eq_some_iff.1 hr).1
  have he : l[c] = r := (List.getElem?_eq_some_iff.1 hr).2
  rw [List.drop_eq_getElem_cons hc, he, bestD]

def RulI (g : Gram) (h : List Int) (u : V) (j c : Nat) (T : Env) (H : View) : Prop :=
  c ≤ g.rules.length ∧ T 1 = .fptr (encG g) 0 ∧ T 3 = encI h ∧ T 4 = u ∧ OwnA H u 1 (intsE ((List.range j).map fun m => bestD h m g.rules 0)) ∧ T 5 = gi j ∧ T 6 = gi (bestD h j (g.rules.drop c) c) ∧ T 7 = gi ((c : Int) - 1)

set_option maxHeartbeats 4000000 in
theorem pn_Rules14 (g : Gram) (hg : g.Ok) : PNew Tryz.prog 35 [.agg (encG g)] (encI (if right09 g = true then rulesP g else [])) := by
  refine PNew.of (gg_tree g) ?_
  refine MCall.of mixed S_gerundref14_Rules_ok ?_
  simp (disch := omega) only [↓wr, ↓reduceIte, wq, eq_self, ne_eq, implies_true, oneV, intOp, goI, splice, sBuild, fillE, nilB, isNil, Nat.reduceEqDiff, Nat.reduceAdd, Nat.reduceLT, Nat.reduceLeDiff, Int.reduceNeg, Int.reduceToNat, reduceCtorEq, decide_true, decide_false, S_gerundref14_Rules, encG, encS]
  refine CallG.pure (pn_Heights14 g hg).pure (by kernel_rfl) ?_
  by_cases hr : right09 g = true
  · have hf := right09_fine hr
    have z1 := hf.nons1
    have z2 := hf.nons
    have z3 := hf.rules
    rw [if_pos hr, if_pos hr]
    have hrl : rulesP g = (List.range g.nons.length).map fun m => bestD (hgts (plansG g)) m g.rules 0 := by
      apply List.ext_getElem (by simp [rulesP, plans_len])
      intro m h1 h2
      simp only [rulesP, List.getElem_map, List.getElem_range]
      rw [best_plans (fun r hr' => (hf.left r hr').1)]
      have : m < (plansG g).length := by simpa [rulesP] using h1
      simp [pAt, List.getD_eq_getElem?_getD, this]
    have hso : HsOk (hgts (plansG g)) := hs_stage z3 z2
    have hhl : (hgts (plansG g)).length = g.nons.length := by simp [plans_len]
    rw [hrl]
    generalize hgts (plansG g) = h at hso hhl ⊢
    simp (disch := omega) only [↓wr, ↓reduceIte, wq, eq_self, ne_eq, implies_true, oneV, intOp, goI, splice, sBuild, fillE, nilB, isNil, Nat.reduceEqDiff, Nat.reduceAdd, Nat.reduceLT, Nat.reduceLeDiff, Int.reduceNeg, Int.reduceToNat, reduceCtorEq, decide_true, decide_false, encI, encG, encS]
    refine LoopG.up g.nons.length (fun j T H' => ∃ u, T 4 = u ∧ OwnA H' u 1 (intsE ((List.range j).map fun m => bestD h m g.rules 0)) ∧ T 1 = .fptr (encG g) 0 ∧ T 3 = encI h ∧ T 5 = gi j) ⟨_, rfl, .nil, rfl, rfl, rfl⟩ ?_
    rintro j k T H hk ⟨u, t4, ho, t1, t3, t5⟩
    simp (disch := omega) only [↓wr, ↓reduceIte, wq, eq_self, ne_eq, implies_true, oneV, intOp, goI, splice, sBuild, fillE, nilB, isNil, Nat.reduceEqDiff, Nat.reduceAdd, Nat.reduceLT, Nat.reduceLeDiff, Int.reduceNeg, Int.reduceToNat, reduceCtorEq, decide_true, decide_false, B_gerundref14_Rules_1, t1, t3, t4, t5, encI]
    refine GoB.dec (fun hc => ?_) (fun hc => ?_)
    · have hjm := hAt_get (h := h) (m := j) (by omega)
      simp (disch := omega) only [↓wr, ↓reduceIte, wq, eq_self, ne_eq, implies_true, oneV, intOp, goI, splice, sBuild, fillE, nilB, isNil, Nat.reduceEqDiff, Nat.reduceAdd, Nat.reduceLT, Nat.reduceLeDiff, Int.reduceNeg, Int.reduceToNat, reduceCtorEq, decide_true, decide_false, t1, t3, t4, t5, encI, encG]
      refine LoopG.intro (RulI g h u j) g.rules.length ?_ ?_
      · refine ⟨by omega, t1, t3, t4, ho, t5, ?_, rfl⟩
        rw [List.drop_eq_nil_of_le (by omega)]; rfl
      clear t1 t3 t4 t5 ho
      rintro c T H ⟨hcl, t1, t3, t4, ho, t5, t6, t7⟩
      simp (disch := omega) only [↓wr, ↓reduceIte, wq, eq_self, ne_eq, implies_true, oneV, intOp, goI, splice, sBuild, fillE, nilB, isNil, Nat.reduceEqDiff, Nat.reduceAdd, Nat.reduceLT, Nat.reduceLeDiff, Int.reduceNeg, Int.reduceToNat, reduceCtorEq, decide_true, decide_false, B_gerundref14_Rules_0, t1, t3, t4, t5, t6, t7, encI, encG]
      refine GoB.dec (fun hc2 => ?_) (fun hc2 => ?_)
      · obtain ⟨c, rfl⟩ : ∃ c', c = c' + 1 := ⟨c - 1, by omega⟩
        have hg2 : g.rules[c]? = some (g.rules[c]'(by omega)) := List.getElem?_eq_getElem (by omega)
        have hmem : g.rules[c]'(by omega) ∈ g.rules := List.getElem_mem _
        generalize g.rules[c]'(by omega) = r at hg2 hmem
        have hri := hf.ruleIn hg hmem
        have hbc := bestD_cons (h := h) (m := j) hg2
        have e1 : (((c + 1 : Nat) : Int) - 1) = (c : Int) := by omega
        rw [e1] at t7
        try simp only [e1]
        rw [show (((c + 1 : Nat) : Int)) = (c : Int) + 1 by omega] at t6
        simp (disch := omega) only [↓wr, ↓reduceIte, wq, eq_self, ne_eq, implies_true, oneV, intOp, goI, splice, sBuild, fillE, nilB, isNil, Nat.reduceEqDiff, Nat.reduceAdd, Nat.reduceLT, Nat.reduceLeDiff, Int.reduceNeg, Int.reduceToNat, reduceCtorEq, decide_true, decide_false, t1, t3, t4, t5, t6, t7, encI, encG, encR, List.getElem?_map, hg2]
        refine GoB.eq (fun h1 => ?_) (fun h1 => ?_)
        · simp (disch := omega) only [↓wr, ↓reduceIte, wq, eq_self, ne_eq, implies_true, oneV, intOp, goI, splice, sBuild, fillE, nilB, isNil, Nat.reduceEqDiff, Nat.reduceAdd, Nat.reduceLT, Nat.reduceLeDiff, Int.reduceNeg, Int.reduceToNat, reduceCtorEq, decide_true, decide_false, t1, t3, t4, t5, t6, t7, encI, encG, encR, List.getElem?_map, hg2, hjm]
          refine GoB.dec (fun h2 => ?_) (fun h2 => ?_)
          · simp (disch := omega) only [↓wr, ↓reduceIte, wq, eq_self, ne_eq, implies_true, oneV, intOp, goI, splice, sBuild, fillE, nilB, isNil, Nat.reduceEqDiff, Nat.reduceAdd, Nat.reduceLT, Nat.reduceLeDiff, Int.reduceNeg, Int.reduceToNat, reduceCtorEq, decide_true, decide_false, t1, t3, t4, t5, t6, t7, encI, encG, encR, List.getElem?_map, hg2, hjm]
            refine CallG.pure (pc_high14 r h hso (by rw [hhl]; exact hri)) (by kernel_rfl) ?_
            simp (disch := omega) only [↓wr, ↓reduceIte, wq, eq_self, ne_eq, implies_true, oneV, intOp, goI, splice, sBuild, fillE, nilB, isNil, Nat.reduceEqDiff, Nat.reduceAdd, Nat.reduceLT, Nat.reduceLeDiff, Int.reduceNeg, Int.reduceToNat, reduceCtorEq, decide_true, decide_false, t1, t3, t4, t5, t6, t7, encI, encG, encR, List.getElem?_map, hg2, hjm]
            refine GoB.eq (fun h3 => ?_) (fun h3 => ?_)
            · simp (disch := omega) only [↓wr, ↓reduceIte, wq, eq_self, ne_eq, implies_true, oneV, intOp, goI, splice, sBuild, fillE, nilB, isNil, Nat.reduceEqDiff, Nat.reduceAdd, Nat.reduceLT, Nat.reduceLeDiff, Int.reduceNeg, Int.reduceToNat, reduceCtorEq, decide_true, decide_false, t1, t3, t4, t5, t6, t7]
              refine ⟨c, by omega, by omega, t1, t3, t4, ho, t5, ?_, rfl⟩
              rw [hbc, if_pos ⟨h1, h2, h3⟩]; rfl
            · simp (disch := omega) only [↓wr, ↓reduceIte, wq, eq_self, ne_eq, implies_true, oneV, intOp, goI, splice, sBuild, fillE, nilB, isNil, Nat.reduceEqDiff, Nat.reduceAdd, Nat.reduceLT, Nat.reduceLeDiff, Int.reduceNeg, Int.reduceToNat, reduceCtorEq, decide_true, decide_false, t1, t3, t4, t5, t6, t7]
              refine ⟨c, by omega, by omega, t1, t3, t4, ho, t5, ?_, rfl⟩
              rw [hbc, if_neg (fun e => h3 e.2.2)]; exact t6
          · simp (disch := omega) only [↓wr, ↓reduceIte, wq, eq_self, ne_eq, implies_true, oneV, intOp, goI, splice, sBuild, fillE, nilB, isNil, Nat.reduceEqDiff, Nat.reduceAdd, Nat.reduceLT, Nat.reduceLeDiff, Int.reduceNeg, Int.reduceToNat, reduceCtorEq, decide_true, decide_false, t1, t3, t4, t5, t6, t7]
            refine ⟨c, by omega, by omega, t1, t3, t4, ho, t5, ?_, rfl⟩
            rw [hbc, if_neg (fun e => h2 e.2.1)]; exact t6
        · simp (disch := omega) only [↓wr, ↓reduceIte, wq, eq_self, ne_eq, implies_true, oneV, intOp, goI, splice, sBuild, fillE, nilB, isNil, Nat.reduceEqDiff, Nat.reduceAdd, Nat.reduceLT, Nat.reduceLeDiff, Int.reduceNeg, Int.reduceToNat, reduceCtorEq, decide_true, decide_false, t1, t3, t4, t5, t6, t7]
          refine ⟨c, by omega, by omega, t1, t3, t4, ho, t5, ?_, rfl⟩
          rw [hbc, if_neg (fun e => h1 e.1)]; exact t6
      · have e0 : c = 0 := by omega
        subst e0
        simp only [List.drop_zero, Int.natCast_zero] at t6
        simp (disch := omega) only [↓wr, ↓reduceIte, wq, eq_self, ne_eq, implies_true, oneV, intOp, goI, splice, sBuild, fillE, nilB, isNil, Nat.reduceEqDiff, Nat.reduceAdd, Nat.reduceLT, Nat.reduceLeDiff, Int.reduceNeg, Int.reduceToNat, reduceCtorEq, decide_true, decide_false, t1, t3, t4, t5, t6, t7]
        intro n hn
        rw [elemsOf_new]
        simp (disch := omega) only [↓wr, ↓reduceIte, wq, eq_self, ne_eq, implies_true, oneV, intOp, goI, splice, sBuild, fillE, nilB, isNil, Nat.reduceEqDiff, Nat.reduceAdd, Nat.reduceLT, Nat.reduceLeDiff, Int.reduceNeg, Int.reduceToNat, reduceCtorEq, decide_true, decide_false, t1, t3, t4, t5, t6, t7]
        refine goApp_all (ho.fresh hn) (by simp [cellOk]) (by unfold limit; simp; omega) (by unfold limit; simp; omega) ?_
        intro u' H' ho' _
        simp (disch := omega) only [↓wr, ↓reduceIte, wq, eq_self, ne_eq, implies_true, oneV, intOp, goI, splice, sBuild, fillE, nilB, isNil, Nat.reduceEqDiff, Nat.reduceAdd, Nat.reduceLT, Nat.reduceLeDiff, Int.reduceNeg, Int.reduceToNat, reduceCtorEq, decide_true, decide_false, t1, t3, t4, t5, t6, t7]
        refine up_next hk (by omega) ⟨u', rfl, ?_, t1, t3, rfl⟩
        rw [List.range_succ]; simpa using ho'
    · simp (disch := omega) only [↓wr, ↓reduceIte, wq, eq_self, ne_eq, implies_true, oneV, intOp, goI, splice, sBuild, fillE, nilB, isNil, Nat.reduceEqDiff, Nat.reduceAdd, Nat.reduceLT, Nat.reduceLeDiff, Int.reduceNeg, Int.reduceToNat, reduceCtorEq, decide_true, decide_false, t1, t3, t4, t5]
      intro h' hh
      have : j = g.nons.length := by omega
      subst this
      exact frn_ints (by rw [hh]; exact ho)
  · have hr : right09 g = false := by simpa using hr
    rw [hr]
    simp (disch := omega) only [↓wr, ↓reduceIte, wq, eq_self, ne_eq, implies_true, oneV, intOp, goI, splice, sBuild, fillE, nilB, isNil, Nat.reduceEqDiff, Nat.reduceAdd, Nat.reduceLT, Nat.reduceLeDiff, Int.reduceNeg, Int.reduceToNat, reduceCtorEq, decide_true, decide_false, encI, encG, encS]
    refine LoopG.up 0 (fun j T H' => T 3 = .fro [] ∧ T 4 = .emp 1 ∧ T 5 = gi j) ⟨rfl, rfl, rfl⟩ ?_
    rintro j k T H hk ⟨t3, t4, t5⟩
    simp (disch := omega) only [↓wr, ↓reduceIte, wq, eq_self, ne_eq, implies_true, oneV, intOp, goI, splice, sBuild, fillE, nilB, isNil, Nat.reduceEqDiff, Nat.reduceAdd, Nat.reduceLT, Nat.reduceLeDiff, Int.reduceNeg, Int.reduceToNat, reduceCtorEq, decide_true, decide_false, B_gerundref14_Rules_1, t3, t4, t5]
    refine GoB.dec (fun hc => absurd hc (by simp)) (fun hc => ?_)
    simp (disch := omega) only [↓wr, ↓reduceIte, wq, eq_self, ne_eq, implies_true, oneV, intOp, goI, splice, sBuild, fillE, nilB, isNil, Nat.reduceEqDiff, Nat.reduceAdd, Nat.reduceLT, Nat.reduceLeDiff, Int.reduceNeg, Int.reduceToNat, reduceCtorEq, decide_true, decide_false, t3, t4, t5]
    intro h' hh
    exact .emp _
end Gv

/-
  How great least trees are: what the document's functions answer.
  Conditions: lists that are no longer than an int says, numbers that are ints.
-/
set_option linter.unusedSimpArgs false
set_option maxRecDepth 100000
namespace Gv
open Go Go.Proofs

def encZ (s : Int × Int) : List V := [gi s.1, gi s.2]
abbrev encZs (S : List (Int × Int)) : V := .fro (S.map encZ)
theorem encZ_tree (s : Int × Int) : ∀ v ∈ encZ s, Tree v := by
  intro v hv; simp [encZ] at hv
  rcases hv with rfl | rfl <;> exact .val _
theorem encZs_tree (S : List (Int × Int)) : Tree (encZs S) := tree_fro _ _ fun s _ v hv => encZ_tree s v hv
theorem frn_z (h : Heap) (s : Int × Int) : FrN h (.agg (encZ s)) (.agg (encZ s)) := .agg _ _ rfl fun i hi => by
  match i, hi with
  | 0, _ => exact .val _
  | 1, _ => exact .val _
  | n + 2, h => exact absurd h (by simp [encZ])
def OkZ (s : Int × Int) : Prop := (0 ≤ s.1 ∧ s.1 ≤ 1000) ∧ (0 ≤ s.2 ∧ s.2 ≤ 1000)
theorem ok_both {a b : Int × Int} (ha : OkZ a) (hb : OkZ b) : OkZ (bothD a b) := by unfold OkZ bothD at *; simp only; omega
theorem min_z {x : Int} : (if x < 1000 then x else 1000) = min 1000 x := by omega

def S_gerundref14_both : SF := ⟨.seq (.region false [⟨none, [((some 2), .op (.frz (.tmp 0))), ((some 3), .op (.frz (.tmp 1))), ((some 4), .op (.alloc [(.val (.int .i64 0)), (.val (.int .i64 0))]))]⟩]) <|
  .seq (.region false [⟨none, [((some 5), .op (.addr 0 (.tmp 2))), ((some 6), .op (.load none (.tmp 5))), ((some 7), .op (.addr 0 (.tmp 3))), ((some 8), .op (.load none (.tmp 7))), ((some 9), .op (.arith .add (.tmp 6) (.tmp 8))), ((some 10), .op (.mm false (.val (.val (.int .i64 1000))) (.tmp 9))), ((some 11), .op (.addr 1 (.tmp 2))), ((some 12), .op (.load none (.tmp 11))), ((some 13), .op (.addr 1 (.tmp 3))), ((some 14), .op (.load none (.tmp 13))), ((some 15), .op (.arith .add (.tmp 12) (.tmp 14))), ((some 16), .op (.mm false (.val (.val (.int .i64 1000))) (.tmp 15))), ((some 17), .op (.build [(.val (.int .i64 0)), (.val (.int .i64 0))] [(0, 1, (.tmp 10)), (1, 1, (.tmp 16))])), (none, .op (.store 2 (.tmp 4) (.tmp 17)))]⟩]) <|
  .ret,
  [.cell 4 (some 2)], 18⟩
theorem S_gerundref14_both_ok : compF Tryz.prog 92 [2, 3] = some S_gerundref14_both := by kernel_rfl

def B_gerundref14_size_0 : SC :=
  .seq (.seq (.region false [⟨none, [((some 8), .op (.mov (.tmp 6))), ((some 9), .op (.mov (.tmp 0))), ((some 10), .op (.len (.tmp 9))), ((some 11), .op (.arith .lss (.tmp 8) (.tmp 10)))]⟩]) <|
  .cond (.tmp 11) (.skip) (.exit 0)) <|
  .seq (.block 1 (.seq (.region false [⟨none, [((some 14), .op (.mov (.tmp 0))), ((some 15), .op (.mov (.tmp 6))), ((some 16), .op (.idx 1 (.tmp 14) (.tmp 15))), ((some 17), .op (.load none (.tmp 16))), ((some 18), .op (.arith .geq (.tmp 17) (.val (.val (.int .i64 0)))))]⟩]) <|
  .cond (.tmp 18) (.region false [⟨none, [((some 19), .op (.load (some 2) (.tmp 5))), ((some 20), .op (.build [(.val (.int .i64 0)), (.val (.int .i64 0))] [(1, 1, (.val (.val (.int .i64 1))))])), ((some 21), .call (.val (.fn 92 [] [])) [(.tmp 19), (.tmp 20)]), (none, .op (.store 2 (.tmp 5) (.tmp 21)))]⟩]) (.region false [⟨none, [((some 22), .op (.load (some 2) (.tmp 5))), ((some 23), .op (.mov (.tmp 1))), ((some 24), .op (.mov (.tmp 0))), ((some 25), .op (.mov (.tmp 6))), ((some 26), .op (.idx 1 (.tmp 24) (.tmp 25))), ((some 27), .op (.load none (.tmp 26))), ((some 28), .op (.arith .sub (.val (.val (.int .i64 (-1)))) (.tmp 27))), ((some 29), .op (.idx 2 (.tmp 23) (.tmp 28))), ((some 30), .op (.load (some 2) (.tmp 29))), ((some 31), .call (.val (.fn 92 [] [])) [(.tmp 22), (.tmp 30)]), (none, .op (.store 2 (.tmp 5) (.tmp 31)))]⟩]))) <|
  .region false [⟨none, [((some 12), .op (.mov (.tmp 6))), ((some 13), .op (.arith .add (.tmp 12) (.val (.val (.int .i64 1))))), ((some 6), .op (.mov (.tmp 13)))]⟩]
def S_gerundref14_size : SF := ⟨.seq (.region false [⟨none, [((some 4), .op (.alloc [(.val (.int .i64 0)), (.val (.int .i64 0))]))]⟩]) <|
  .seq (.region false [⟨none, [((some 7), .op (.build [(.val (.int .i64 0)), (.val (.int .i64 0))] [])), ((some 5), .op (.alloc [(.val (.int .i64 0)), (.val (.int .i64 0))])), (none, .op (.store 2 (.tmp 5) (.tmp 7)))]⟩]) <|
  .seq (.seq (.region false [⟨none, [((some 6), .op (.mov (.val (.val (.int .i64 0)))))]⟩]) <|
  .block 0 (.loop B_gerundref14_size_0)) <|
  .seq (.region false [⟨none, [((some 32), .op (.load (some 2) (.tmp 5))), (none, .op (.store 2 (.tmp 4) (.tmp 32)))]⟩]) <|
  .ret,
  [.cell 4 (some 2)], 33⟩
theorem S_gerundref14_size_ok : compF Tryz.prog 65 [] = some S_gerundref14_size := by kernel_rfl

theorem pn_both (a b : Int × Int) (ha : OkZ a) (hb : OkZ b) : PNew Tryz.prog 92 [.agg (encZ a), .agg (encZ b)] (.agg (encZ (bothD a b))) := by
  unfold OkZ at ha hb
  refine PNew.of (by
    intro v hv; simp at hv
    rcases hv with rfl | rfl
    · exact tree_agg _ (encZ_tree a)
    · exact tree_agg _ (encZ_tree b)) ?_
  refine MCall.of mixed S_gerundref14_both_ok ?_
  simp (disch := omega) only [↓wr, ↓reduceIte, wq, eq_self, ne_eq, implies_true, oneV, intOp, goI, splice, sBuild, fillE, nilB, isNil, Nat.reduceEqDiff, Nat.reduceAdd, Nat.reduceLT, Nat.reduceLeDiff, Int.reduceNeg, Int.reduceToNat, reduceCtorEq, decide_true, decide_false, S_gerundref14_both, encZ, min_z]
  intro n h' _
  exact frn_z h' (bothD a b)

theorem lent_zs {H : View} {id n : Nat} {S : List (Int × Int)} (hv : H id = .arr 2 (S.map encZ)) (hn : n = S.length) : Lent H (.sl id 0 n 2) (encZs S) := by
  subst hn
  exact Lent.own (sz := 2) (.inr ⟨id, by simp, hv⟩) fun e he v hv => by
    obtain ⟨x, _, rfl⟩ := List.mem_map.1 he
    exact encZ_tree x v hv
theorem sAt_get {S : List (Int × Int)} {m : Nat} (hm : m < S.length) : (S.map encZ)[m]? = some (encZ (sAt S m)) := by simp [sAt, List.getD_eq_getElem?_getD, hm]

set_option maxHeartbeats 2000000 in
theorem pn_size (l : List Int) (S : List (Int × Int)) (hl : Short l) (hS : ∀ m, OkZ (sAt S m)) (hn : ∀ x ∈ l, In64 x ∧ (x < 0 → -1 - x < S.length)) : PNew Tryz.prog 65 [encI l, encZs S] (.agg (encZ (sizeD S l (0, 0)))) := by
  unfold Short at hl
  refine PNew.of (by
    intro v hv; simp at hv
    rcases hv with rfl | rfl
    · exact encI_tree l
    · exact encZs_tree S) ?_
  refine MCall.of mixed S_gerundref14_size_ok ?_
  simp (disch := omega) only [↓wr, ↓reduceIte, wq, eq_self, ne_eq, implies_true, oneV, intOp, goI, splice, sBuild, fillE, nilB, isNil, Nat.reduceEqDiff, Nat.reduceAdd, Nat.reduceLT, Nat.reduceLeDiff, Int.reduceNeg, Int.reduceToNat, reduceCtorEq, decide_true, decide_false, S_gerundref14_size, encI]
  intro n1 n2 hn2
  try simp (disch := omega) only [↓wr, ↓reduceIte, wq, eq_self, ne_eq, implies_true, oneV, intOp, goI, splice, sBuild, fillE, nilB, isNil, Nat.reduceEqDiff, Nat.reduceAdd, Nat.reduceLT, Nat.reduceLeDiff, Int.reduceNeg, Int.reduceToNat, reduceCtorEq, decide_true, decide_false, encI]
  have h12 : n1 ≠ n2 := fun e => by subst e; simp [View.set] at hn2
  refine LoopG.up l.length (fun i T H' => ∃ s : Int × Int, OkZ s ∧ sizeD S (l.drop i) s = sizeD S l (0, 0) ∧ H' n2 = .arr 2 [encZ s] ∧ (∃ z, H' n1 = .arr 2 [[z, z]]) ∧ T 0 = encI l ∧ T 1 = encZs S ∧ T 4 = .ptr n1 0 0 ∧ T 5 = .ptr n2 0 0 ∧ T 6 = gi i) ?_ ?_
  · exact ⟨(0, 0), by unfold OkZ; simp, rfl, by simp [View.set, encZ], ⟨gi 0, by simp [View.set, h12]⟩, rfl, rfl, rfl, rfl, rfl⟩
  clear hn2
  rintro i k T H hk ⟨s, hs, hd, hH, ⟨z, hz⟩, t0, t1, t4, t5, t6⟩
  have hs0 := hs
  unfold OkZ at hs0
  simp (disch := omega) only [↓wr, ↓reduceIte, wq, eq_self, ne_eq, implies_true, oneV, intOp, goI, splice, sBuild, fillE, nilB, isNil, Nat.reduceEqDiff, Nat.reduceAdd, Nat.reduceLT, Nat.reduceLeDiff, Int.reduceNeg, Int.reduceToNat, reduceCtorEq, decide_true, decide_false, B_gerundref14_size_0, t0, t1, t4, t5, t6, encI]
  refine GoB.dec (fun hc => ?_) (fun hc => ?_)
  · have hg : l[i]? = some (l[i]'(by omega)) := List.getElem?_eq_getElem (by omega)
    have hmem : l[i]'(by omega) ∈ l := List.getElem_mem _
    rw [drop_at (show i < l.length by omega), sizeD] at hd
    generalize l[i]'(by omega) = x at hg hmem hd
    obtain ⟨⟨hx1, hx2⟩, hx3⟩ := hn x hmem
    simp (disch := omega) only [↓wr, ↓reduceIte, wq, eq_self, ne_eq, implies_true, oneV, intOp, goI, splice, sBuild, fillE, nilB, isNil, Nat.reduceEqDiff, Nat.reduceAdd, Nat.reduceLT, Nat.reduceLeDiff, Int.reduceNeg, Int.reduceToNat, reduceCtorEq, decide_true, decide_false, t0, t1, t4, t5, t6, encI, List.getElem?_map, hg]
    refine GoB.dec (fun hx => ?_) (fun hx => ?_)
    · rw [if_pos (show 0 ≤ x from hx)] at hd
      simp (disch := omega) only [↓wr, ↓reduceIte, wq, eq_self, ne_eq, implies_true, oneV, intOp, goI, splice, sBuild, fillE, nilB, isNil, Nat.reduceEqDiff, Nat.reduceAdd, Nat.reduceLT, Nat.reduceLeDiff, Int.reduceNeg, Int.reduceToNat, reduceCtorEq, decide_true, decide_false, t0, t1, t4, t5, t6, hH, encZ]
      refine CallG.pure (pn_both s (0, 1) hs (by unfold OkZ; simp)).pure (by kernel_rfl) ?_
      have hb := ok_both hs (show OkZ (0, 1) by unfold OkZ; simp)
      generalize bothD s (0, 1) = s2 at hd hb
      simp (disch := omega) only [↓wr, ↓reduceIte, wq, eq_self, ne_eq, implies_true, oneV, intOp, goI, splice, sBuild, fillE, nilB, isNil, Nat.reduceEqDiff, Nat.reduceAdd, Nat.reduceLT, Nat.reduceLeDiff, Int.reduceNeg, Int.reduceToNat, reduceCtorEq, decide_true, decide_false, t0, t1, t4, t5, t6, hH, encZ]
      refine up_next hk (by omega) ⟨s2, hb, hd, by simp [View.set, encZ], ⟨z, by simp [View.set, h12, hz]⟩, t0, t1, t4, t5, rfl⟩
    · rw [if_neg (show ¬ 0 ≤ x from hx)] at hd
      have hm : nonN x < S.length := by have := hx3 (by omega); unfold nonN; omega
      have hgm := sAt_get hm
      have hb0 := hS (nonN x)
      generalize sAt S (nonN x) = s1 at hd hgm hb0
      simp (disch := omega) only [↓wr, ↓reduceIte, wq, eq_self, ne_eq, implies_true, oneV, intOp, goI, splice, sBuild, fillE, nilB, isNil, Nat.reduceEqDiff, Nat.reduceAdd, Nat.reduceLT, Nat.reduceLeDiff, Int.reduceNeg, Int.reduceToNat, reduceCtorEq, decide_true, decide_false, t0, t1, t4, t5, t6, hH, encI, List.getElem?_map, hg, hgm, encZ]
      refine CallG.pure (pn_both s s1 hs hb0).pure (by kernel_rfl) ?_
      have hb := ok_both hs hb0
      generalize bothD s s1 = s2 at hd hb
      simp (disch := omega) only [↓wr, ↓reduceIte, wq, eq_self, ne_eq, implies_true, oneV, intOp, goI, splice, sBuild, fillE, nilB, isNil, Nat.reduceEqDiff, Nat.reduceAdd, Nat.reduceLT, Nat.reduceLeDiff, Int.reduceNeg, Int.reduceToNat, reduceCtorEq, decide_true, decide_false, t0, t1, t4, t5, t6, hH, encZ]
      refine up_next hk (by omega) ⟨s2, hb, hd, by simp [View.set, encZ], ⟨z, by simp [View.set, h12, hz]⟩, t0, t1, t4, t5, rfl⟩
  · simp (disch := omega) only [↓wr, ↓reduceIte, wq, eq_self, ne_eq, implies_true, oneV, intOp, goI, splice, sBuild, fillE, nilB, isNil, Nat.reduceEqDiff, Nat.reduceAdd, Nat.reduceLT, Nat.reduceLeDiff, Int.reduceNeg, Int.reduceToNat, reduceCtorEq, decide_true, decide_false, t0, t1, t4, t5, t6, hH, hz, encZ]
    rw [List.drop_eq_nil_of_le (by omega), sizeD] at hd
    intro h' _
    rw [← hd]
    exact frn_z h' s

def B_gerundref14_sizes_0 : SC :=
  .seq (.seq (.region false [⟨none, [((some 21), .op (.mov (.tmp 7))), ((some 22), .op (.mov (.tmp 3))), ((some 23), .op (.len (.tmp 22))), ((some 24), .op (.arith .lss (.tmp 21) (.tmp 23)))]⟩]) <|
  .cond (.tmp 24) (.skip) (.exit 2)) <|
  .seq (.block 3 (.seq (.region false [⟨none, [((some 27), .op (.mov (.tmp 3))), ((some 28), .op (.mov (.tmp 7))), ((some 29), .op (.idx 1 (.tmp 27) (.tmp 28))), ((some 30), .op (.load none (.tmp 29))), ((some 31), .op (.mov (.tmp 6))), ((some 32), .op (.arith .eql (.tmp 30) (.tmp 31)))]⟩]) <|
  .cond (.tmp 32) (.region false [⟨none, [((some 33), .op (.mov (.tmp 5))), ((some 34), .op (.mov (.tmp 7))), ((some 35), .op (.build [(.val (.int .i64 0)), (.val (.int .i64 0))] [(0, 1, (.val (.val (.int .i64 1))))])), ((some 36), .op (.addr 2 (.tmp 1))), ((some 37), .op (.load none (.tmp 36))), ((some 38), .op (.mov (.tmp 4))), ((some 39), .op (.mov (.tmp 7))), ((some 40), .op (.idx 1 (.tmp 38) (.tmp 39))), ((some 41), .op (.load none (.tmp 40))), ((some 42), .op (.idx 3 (.tmp 37) (.tmp 41))), ((some 43), .op (.addr 1 (.tmp 42))), ((some 44), .op (.load none (.tmp 43))), ((some 45), .op (.mov (.tmp 5))), ((some 46), .call (.val (.fn 65 [] [])) [(.tmp 44), (.tmp 45)]), ((some 47), .call (.val (.fn 92 [] [])) [(.tmp 35), (.tmp 46)]), ((some 48), .op (.idx 2 (.tmp 33) (.tmp 34))), (none, .op (.store 2 (.tmp 48) (.tmp 47)))]⟩]) (.skip))) <|
  .region false [⟨none, [((some 25), .op (.mov (.tmp 7))), ((some 26), .op (.arith .add (.tmp 25) (.val (.val (.int .i64 1))))), ((some 7), .op (.mov (.tmp 26)))]⟩]
def B_gerundref14_sizes_1 : SC :=
  .seq (.seq (.region false [⟨none, [((some 15), .op (.mov (.tmp 6))), ((some 16), .op (.mov (.tmp 3))), ((some 17), .op (.len (.tmp 16))), ((some 18), .op (.arith .leq (.tmp 15) (.tmp 17)))]⟩]) <|
  .cond (.tmp 18) (.skip) (.exit 0)) <|
  .seq (.block 1 (.seq (.region false [⟨none, [((some 7), .op (.mov (.val (.val (.int .i64 0)))))]⟩]) <|
  .block 2 (.loop B_gerundref14_sizes_0))) <|
  .region false [⟨none, [((some 19), .op (.mov (.tmp 6))), ((some 20), .op (.arith .add (.tmp 19) (.val (.val (.int .i64 1))))), ((some 6), .op (.mov (.tmp 20)))]⟩]
def S_gerundref14_sizes : SF := ⟨.seq (.region false [⟨none, [((some 1), .op (.frz (.tmp 0))), ((some 2), .op (.mov (.val (.emp 1))))]⟩]) <|
  .seq (.region true [⟨none, [((some 8), .op (.load (some 4) (.tmp 1))), ((some 9), .call (.val (.fn 33 [] [])) [(.tmp 8)]), ((some 10), .op (.load (some 4) (.tmp 1))), ((some 11), .call (.val (.fn 35 [] [])) [(.tmp 10)]), ((some 3), .op (.mov (.tmp 9))), ((some 4), .op (.mov (.tmp 11)))]⟩]) <|
  .seq (.region false [⟨none, [((some 12), .op (.mov (.tmp 3))), ((some 13), .op (.len (.tmp 12))), ((some 14), .op (.make 2 16 [(.val (.int .i64 0)), (.val (.int .i64 0))] (.tmp 13) (.tmp 13))), ((some 5), .op (.mov (.tmp 14)))]⟩]) <|
  .seq (.seq (.region false [⟨none, [((some 6), .op (.mov (.val (.val (.int .i64 1)))))]⟩]) <|
  .block 0 (.loop B_gerundref14_sizes_1)) <|
  .seq (.region false [⟨none, [((some 49), .op (.mov (.tmp 5))), ((some 2), .op (.mov (.tmp 49)))]⟩]) <|
  .ret,
  [.tmp 2], 50⟩
theorem S_gerundref14_sizes_ok : compF Tryz.prog 60 [1] = some S_gerundref14_sizes := by kernel_rfl

theorem sizeD_ok {S : List (Int × Int)} (hS : ∀ m, OkZ (sAt S m)) : ∀ (l : List Int) (s : Int × Int), OkZ s → OkZ (sizeD S l s)
  | [], _, h => h
  | x :: l, s, h => sizeD_ok hS l _ (ok_both h (by split; · unfold OkZ; simp
                                                   · exact hS _))

def capsG (g : Gram) : List (Int × Int) := (plansG g).map capP
theorem capP_no : capP noP = (0, 0) := by decide
theorem sAt_caps (g : Gram) (m : Nat) : sAt (capsG g) m = capP (pAt (plansG g) m) := by
  simp only [capsG, sAt, pAt, List.getD_eq_getElem?_getD, List.getElem?_map]
  cases (plansG g)[m]? <;> rfl
theorem ok_cap (g : Gram) (m : Nat) : OkZ (capP (pAt (plansG g) m)) := by
  have h : PosP (pAt (plansG g) m) := stage_pos g _ m
  unfold PosP at h
  unfold OkZ capP; simp only; omega

/-- Those sizes are known that are no higher than j, and some of the next ones. -/
def SizeI (g : Gram) (j i : Nat) (S : List (Int × Int)) : Prop := S.length = g.nons.length ∧ ∀ m, sAt S m = if (pAt (plansG g) m).height ≤ j ∨ ((pAt (plansG g) m).height = j + 1 ∧ m < i) then capP (pAt (plansG g) m) else (0, 0)
theorem SizeI.ok {g : Gram} {j i : Nat} {S : List (Int × Int)} (h : SizeI g j i S) (m : Nat) : OkZ (sAt S m) := by
  rw [h.2 m]; split
  · exact ok_cap g m
  · unfold OkZ; simp
theorem sAt_set {S : List (Int × Int)} {i m : Nat} {v : Int × Int} (hm : m < S.length) : sAt (S.set i v) m = if i = m then v else sAt S m := by
  simp only [sAt, List.getD_eq_getElem?_getD, List.getElem?_set]
  split
  · rename_i e; subst e; simp [hm]
  · rfl
theorem SizeI.next {g : Gram} {j i : Nat} {S : List (Int × Int)} (h : SizeI g j i S) (hi : (pAt (plansG g) i).height ≠ (j : Int) + 1) : SizeI g j (i + 1) S := ⟨h.1, fun m => by
  rw [h.2 m]
  by_cases e : m = i
  · subst e
    by_cases h1 : (pAt (plansG g) m).height ≤ j
    · rw [if_pos (.inl h1), if_pos (.inl h1)]
    · rw [if_neg (by omega), if_neg (by omega)]
  · congr 1
    simp only [eq_iff_iff]
    constructor <;> rintro (h1 | h1) <;> first | exact .inl h1 | exact .inr ⟨h1.1, by omega⟩⟩
theorem SizeI.put {g : Gram} {j i : Nat} {S : List (Int × Int)} (h : SizeI g j i S) (hi : (pAt (plansG g) i).height = (j : Int) + 1) (hn : i < g.nons.length) : SizeI g j (i + 1) (S.set i (capP (pAt (plansG g) i))) := ⟨by simp [h.1], fun m => by
  by_cases hm : m < S.length
  · rw [sAt_set hm]
    by_cases e : i = m
    · subst e; rw [if_pos rfl, if_pos (.inr ⟨hi, by omega⟩)]
    · rw [if_neg e, h.2 m]
      congr 1
      simp only [eq_iff_iff]
      constructor <;> rintro (h1 | h1) <;> first | exact .inl h1 | exact .inr ⟨h1.1, by omega⟩
  · have : pAt (plansG g) m = noP := pAt_out (by rw [plans_len, ← h.1]; omega)
    have e : sAt (S.set i (capP (pAt (plansG g) i))) m = (0, 0) := by
      simp only [sAt, List.getD_eq_getElem?_getD]; rw [List.getElem?_eq_none (by simp; omega)]; rfl
    rw [e, this]
    split <;> simp [capP_no]⟩
theorem SizeI.turn {g : Gram} {j : Nat} {S : List (Int × Int)} (h : SizeI g j g.nons.length S) : SizeI g (j + 1) 0 S := ⟨h.1, fun m => by
  rw [h.2 m]
  by_cases hm : m < g.nons.length
  · congr 1
    simp only [eq_iff_iff]
    push_cast
    constructor
    · rintro (h1 | h1) <;> left <;> omega
    · rintro (h1 | h1)
      · omega
      · omega
  · have : pAt (plansG g) m = noP := pAt_out (by rw [plans_len]; omega)
    rw [this]; split <;> split <;> simp [capP_no]⟩
theorem SizeI.start (g : Gram) : SizeI g 0 0 (List.replicate g.nons.length (0, 0)) := ⟨by simp, fun m => by
  have e : sAt (List.replicate g.nons.length (0, 0)) m = (0, 0) := by
    simp only [sAt, List.getD_eq_getElem?_getD, List.getElem?_replicate]
    split <;> rfl
  rw [e]
  split
  · rename_i h
    by_cases hk : Known (plansG g) m
    · have := (plans_known hk).1; omega
    · rw [plans_un hk]; simp [capP_no]
  · rfl⟩
theorem SizeI.done {g : Gram} {S : List (Int × Int)} (h : SizeI g g.nons.length 0 S) : S = capsG g := by
  apply List.ext_getElem (by simp [h.1, capsG, plans_len])
  intro m h1 h2
  have e : S[m] = sAt S m := by simp [sAt, List.getD_eq_getElem?_getD, h1]
  have e2 : (capsG g)[m] = sAt (capsG g) m := by simp [sAt, List.getD_eq_getElem?_getD, h2]
  rw [e, e2, h.2 m, sAt_caps]
  by_cases hk : Known (plansG g) m
  · rw [if_pos (.inl (plans_known hk).2)]
  · rw [plans_un hk]; split <;> simp [capP_no]

set_option maxHeartbeats 4000000 in
theorem pn_sizes (g : Gram) (hg : g.Ok) (hr : right09 g = true) : PNew Tryz.prog 60 [.agg (encG g)] (encZs (capsG g)) := by
  refine PNew.of (gg_tree g) ?_
  refine MCall.of mixed S_gerundref14_sizes_ok ?_
  simp (disch := omega) only [↓wr, ↓reduceIte, wq, eq_self, ne_eq, implies_true, oneV, intOp, goI, splice, sBuild, fillE, nilB, isNil, Nat.reduceEqDiff, Nat.reduceAdd, Nat.reduceLT, Nat.reduceLeDiff, Int.reduceNeg, Int.reduceToNat, reduceCtorEq, decide_true, decide_false, S_gerundref14_sizes, encG, encS]
  refine CallG.pure (pn_Heights14 g hg).pure (by kernel_rfl) ?_
  simp (disch := omega) only [↓wr, ↓reduceIte, wq, eq_self, ne_eq, implies_true, oneV, intOp, goI, splice, sBuild, fillE, nilB, isNil, Nat.reduceEqDiff, Nat.reduceAdd, Nat.reduceLT, Nat.reduceLeDiff, Int.reduceNeg, Int.reduceToNat, reduceCtorEq, decide_true, decide_false]
  refine CallG.pure (pn_Rules14 g hg).pure (by kernel_rfl) ?_
  have hf := right09_fine hr
  have z1 := hf.nons1
  have z2 := hf.nons
  have z3 := hf.rules
  rw [if_pos hr, if_pos hr]
  have hhl := plans_len g
  simp (disch := omega) only [↓wr, ↓reduceIte, wq, eq_self, ne_eq, implies_true, oneV, intOp, goI, splice, sBuild, fillE, nilB, isNil, Nat.reduceEqDiff, Nat.reduceAdd, Nat.reduceLT, Nat.reduceLeDiff, Int.reduceNeg, Int.reduceToNat, reduceCtorEq, decide_true, decide_false, encI, encG, encS, hhl, List.length_map]
  refine ⟨⟨by omega, by unfold limit; omega, by unfold limit; omega⟩, fun h => by omega, ?_⟩
  intro _ b
  try simp (disch := omega) only [↓wr, ↓reduceIte, wq, eq_self, ne_eq, implies_true, oneV, intOp, goI, splice, sBuild, fillE, nilB, isNil, Nat.reduceEqDiff, Nat.reduceAdd, Nat.reduceLT, Nat.reduceLeDiff, Int.reduceNeg, Int.reduceToNat, reduceCtorEq, decide_true, decide_false]
  refine LoopG.up g.nons.length (fun j T H' => ∃ S, SizeI g j 0 S ∧ H' b = .arr 2 (S.map encZ) ∧ T 1 = .fptr (encG g) 0 ∧ T 3 = encI (hgts (plansG g)) ∧ T 4 = encI (rulesP g) ∧ T 5 = .sl b 0 g.nons.length 2 ∧ T 6 = gi ((j : Int) + 1)) ?_ ?_
  · refine ⟨_, .start g, ?_, rfl, rfl, rfl, rfl, rfl⟩
    simp [View.set, encZ]
  rintro j k T H hk ⟨S, hS, hb, t1, t3, t4, t5, t6⟩
  simp (disch := omega) only [↓wr, ↓reduceIte, wq, eq_self, ne_eq, implies_true, oneV, intOp, goI, splice, sBuild, fillE, nilB, isNil, Nat.reduceEqDiff, Nat.reduceAdd, Nat.reduceLT, Nat.reduceLeDiff, Int.reduceNeg, Int.reduceToNat, reduceCtorEq, decide_true, decide_false, B_gerundref14_sizes_1, t1, t3, t4, t5, t6, encI, hhl, List.length_map]
  refine GoB.dec (fun hc => ?_) (fun hc => ?_)
  · simp (disch := omega) only [↓wr, ↓reduceIte, wq, eq_self, ne_eq, implies_true, oneV, intOp, goI, splice, sBuild, fillE, nilB, isNil, Nat.reduceEqDiff, Nat.reduceAdd, Nat.reduceLT, Nat.reduceLeDiff, Int.reduceNeg, Int.reduceToNat, reduceCtorEq, decide_true, decide_false, t1, t3, t4, t5, t6, encI, hhl, List.length_map]
    refine LoopG.up g.nons.length (fun i T H' => ∃ S, SizeI g j i S ∧ H' b = .arr 2 (S.map encZ) ∧ T 1 = .fptr (encG g) 0 ∧ T 3 = encI (hgts (plansG g)) ∧ T 4 = encI (rulesP g) ∧ T 5 = .sl b 0 g.nons.length 2 ∧ T 6 = gi ((j : Int) + 1) ∧ T 7 = gi i) ⟨S, hS, hb, t1, t3, t4, t5, t6, rfl⟩ ?_
    clear t1 t3 t4 t5 t6 hS hb
    rintro i q T H hq ⟨S, hS, hb, t1, t3, t4, t5, t6, t7⟩
    simp (disch := omega) only [↓wr, ↓reduceIte, wq, eq_self, ne_eq, implies_true, oneV, intOp, goI, splice, sBuild, fillE, nilB, isNil, Nat.reduceEqDiff, Nat.reduceAdd, Nat.reduceLT, Nat.reduceLeDiff, Int.reduceNeg, Int.reduceToNat, reduceCtorEq, decide_true, decide_false, B_gerundref14_sizes_0, t1, t3, t4, t5, t6, t7, encI, hhl, List.length_map]
    refine GoB.dec (fun hc2 => ?_) (fun hc2 => ?_)
    · have hgh := hAt_get (h := hgts (plansG g)) (m := i) (by simp; omega)
      rw [hAt_map] at hgh
      simp (disch := omega) only [↓wr, ↓reduceIte, wq, eq_self, ne_eq, implies_true, oneV, intOp, goI, splice, sBuild, fillE, nilB, isNil, Nat.reduceEqDiff, Nat.reduceAdd, Nat.reduceLT, Nat.reduceLeDiff, Int.reduceNeg, Int.reduceToNat, reduceCtorEq, decide_true, decide_false, t1, t3, t4, t5, t6, t7, encI, List.getElem?_map, hgh]
      refine GoB.eq (fun hi => ?_) (fun hi => ?_)
      · have hk2 : Known (plansG g) i := by
          by_cases h : Known (plansG g) i
          · exact h
          · rw [plans_un h] at hi; simp [noP] at hi; omega
        obtain ⟨ri, r, hr2, hl2, ha2, hp2, _⟩ := plans_least hk2
        have hri : (pAt (plansG g) i).rule = ri := by rw [hp2]; rfl
        have hgr := hAt_get (h := rulesP g) (m := i) (by simp [rulesP, hhl]; omega)
        have hrv : hAt (rulesP g) i = ri := by
          rw [← hri]; simp [rulesP, hAt, pAt, List.getD_eq_getElem?_getD, hhl, show i < g.nons.length by omega]
        rw [hrv] at hgr
        have hmem := List.mem_of_getElem? hr2
        have hrl : ri < g.rules.length := (List.getElem?_eq_some_iff.1 hr2).1
        have hrw := hg.rule r hmem
        simp (disch := omega) only [↓wr, ↓reduceIte, wq, eq_self, ne_eq, implies_true, oneV, intOp, goI, splice, sBuild, fillE, nilB, isNil, Nat.reduceEqDiff, Nat.reduceAdd, Nat.reduceLT, Nat.reduceLeDiff, Int.reduceNeg, Int.reduceToNat, reduceCtorEq, decide_true, decide_false, t1, t3, t4, t5, t6, t7, encI, encG, encR, List.getElem?_map, hgr, hr2]
        refine CallG.lendN (pn_size r.right S hrw.2.2.1 hS.ok fun x hx => ⟨hrw.2.2.2 x hx, fun hn => by rw [hS.1]; exact hf.neg hmem hx hn⟩) (by kernel_rfl) ⟨Lent.tree (encI_tree r.right), lent_zs hb hS.1.symm, trivial⟩ ?_
        have hsz := size_plan (S := S) hk2 hr2 hri fun k hk3 hk4 => by rw [hS.2 k, if_pos (.inl (by omega))]
        have hz0 : OkZ (sizeD S r.right (0, 0)) := sizeD_ok hS.ok _ _ (by unfold OkZ; simp)
        generalize sizeD S r.right (0, 0) = z at hsz hz0
        simp (disch := omega) only [↓wr, ↓reduceIte, wq, eq_self, ne_eq, implies_true, oneV, intOp, goI, splice, sBuild, fillE, nilB, isNil, Nat.reduceEqDiff, Nat.reduceAdd, Nat.reduceLT, Nat.reduceLeDiff, Int.reduceNeg, Int.reduceToNat, reduceCtorEq, decide_true, decide_false, t1, t3, t4, t5, t6, t7]
        refine CallG.pure (pn_both (1, 0) z (by unfold OkZ; simp) hz0).pure (by kernel_rfl) ?_
        rw [hsz]
        simp (disch := omega) only [↓wr, ↓reduceIte, wq, eq_self, ne_eq, implies_true, oneV, intOp, goI, splice, sBuild, fillE, nilB, isNil, Nat.reduceEqDiff, Nat.reduceAdd, Nat.reduceLT, Nat.reduceLeDiff, Int.reduceNeg, Int.reduceToNat, reduceCtorEq, decide_true, decide_false, t1, t3, t4, t5, t6, t7, hb, encZ]
        have hSl := hS.1
        have hgS : (S.map encZ).getD i [] = encZ (sAt S i) := by simp [sAt, List.getD_eq_getElem?_getD, show i < S.length by omega]
        refine ⟨by omega, by omega, up_next hq (by omega) ⟨_, hS.put hi (by omega), ?_, t1, t3, t4, t5, t6, rfl⟩⟩
        simp only [View.set, if_true]
        rw [List.map_set, hgS]; simp only [encZ, List.drop_succ_cons, List.drop_nil, List.drop_zero]
      · simp (disch := omega) only [↓wr, ↓reduceIte, wq, eq_self, ne_eq, implies_true, oneV, intOp, goI, splice, sBuild, fillE, nilB, isNil, Nat.reduceEqDiff, Nat.reduceAdd, Nat.reduceLT, Nat.reduceLeDiff, Int.reduceNeg, Int.reduceToNat, reduceCtorEq, decide_true, decide_false, t1, t3, t4, t5, t6, t7]
        exact up_next hq (by omega) ⟨S, hS.next hi, hb, t1, t3, t4, t5, t6, rfl⟩
    · simp (disch := omega) only [↓wr, ↓reduceIte, wq, eq_self, ne_eq, implies_true, oneV, intOp, goI, splice, sBuild, fillE, nilB, isNil, Nat.reduceEqDiff, Nat.reduceAdd, Nat.reduceLT, Nat.reduceLeDiff, Int.reduceNeg, Int.reduceToNat, reduceCtorEq, decide_true, decide_false, t1, t3, t4, t5, t6, t7]
      have hS' : i = g.nons.length := by omega
      subst hS'
      exact up_next hk (by omega) ⟨S, hS.turn, hb, t1, t3, t4, t5, rfl⟩
  · simp (disch := omega) only [↓wr, ↓reduceIte, wq, eq_self, ne_eq, implies_true, oneV, intOp, goI, splice, sBuild, fillE, nilB, isNil, Nat.reduceEqDiff, Nat.reduceAdd, Nat.reduceLT, Nat.reduceLeDiff, Int.reduceNeg, Int.reduceToNat, reduceCtorEq, decide_true, decide_false, t1, t3, t4, t5, t6]
    have hS' : j = g.nons.length := by omega
    subst hS'
    rw [hS.done] at hb
    intro h' hh
    exact FrN.own (sz := 2) (.inr ⟨b, by simp [capsG, hhl], by rw [hh]; exact hb⟩) rfl (fun i _ => rfl) (fun i j hi hj => by
      simp only [List.length_map] at hi
      have e : ((capsG g).map encZ).getD i [] = encZ (capsG g)[i] := by simp [List.getD_eq_getElem?_getD, hi]
      rw [e] at hj ⊢
      match j, hj with
      | 0, _ => exact .val _
      | 1, _ => exact .val _
      | n + 2, h => exact absurd h (by simp [encZ]))
end Gv

/-
  Least trees and words: what the document's functions answer.
  Conditions: a grammar that may be; trees that are no greater than a list may be.
-/
set_option linter.unusedSimpArgs false
set_option maxRecDepth 100000
namespace Gv
open Go Go.Proofs

theorem OwnA.elems {H : View} {u : V} {sz : Nat} {es : List (List V)} (h : OwnA H u sz es) : ∃ rd, elemsOf H u = some (es, rd) := by
  rcases h with ⟨rfl, k, rfl⟩ | ⟨n, rfl, hn⟩
  · exact ⟨[], rfl⟩
  · cases es with
    | nil => exact ⟨[], rfl⟩
    | cons e r =>
      refine ⟨[n], ?_⟩
      rw [List.length_cons, elemsOf_sl _ n 0 r.length sz sz _ hn (by simp), List.drop_zero, List.take_of_length_le (by simp)]
theorem Fresh.step {H H' H1 : View} {u u1 : V} (h : Fresh H H' u) (l : Left H' H1 u u1) : Fresh H H1 u1 := fun id hid => by
  have h1 := h id hid
  have h2 := l id (by rw [h1.1]; exact hid) h1.2
  exact ⟨h2.1.trans h1.1, h2.2⟩
theorem Fresh.put {H H' : View} {u : V} {n : Nat} {o : AObj} (h : Fresh H H' u) (hn : H' n = .dead) : Fresh H (H'.set n o) u := fun id hid => by
  have h1 := h id hid
  have e : id ≠ n := by rintro rfl; rw [h1.1] at hn; exact hid hn
  exact ⟨by simp [View.set, e, h1.1], h1.2⟩
theorem Fresh.call {H H' H2 : View} {u r : V} (h : Fresh H H' u) (k : Fresh H' H2 r) : Fresh H H2 u := fun id hid => by
  have h1 := h id hid
  have h2 := k id (by rw [h1.1]; exact hid)
  exact ⟨h2.1.trans h1.1, h1.2⟩

def B_gerundref14_tree_0 : SC :=
  .seq (.seq (.region false [⟨none, [((some 10), .op (.mov (.tmp 8))), ((some 11), .op (.mov (.tmp 1))), ((some 12), .op (.len (.tmp 11))), ((some 13), .op (.arith .lss (.tmp 10) (.tmp 12)))]⟩]) <|
  .cond (.tmp 13) (.skip) (.exit 0)) <|
  .seq (.block 1 (.seq (.region false [⟨none, [((some 16), .op (.mov (.tmp 1))), ((some 17), .op (.mov (.tmp 8))), ((some 18), .op (.idx 1 (.tmp 16) (.tmp 17))), ((some 19), .op (.load none (.tmp 18))), ((some 20), .op (.arith .lss (.tmp 19) (.val (.val (.int .i64 0)))))]⟩]) <|
  .cond (.tmp 20) (.seq (.region false [⟨none, [((some 21), .op (.mov (.tmp 2))), ((some 22), .op (.mov (.tmp 1))), ((some 23), .op (.mov (.tmp 8))), ((some 24), .op (.idx 1 (.tmp 22) (.tmp 23))), ((some 25), .op (.load none (.tmp 24))), ((some 26), .op (.arith .sub (.val (.val (.int .i64 (-1)))) (.tmp 25))), ((some 27), .op (.idx 1 (.tmp 21) (.tmp 26))), ((some 28), .op (.load none (.tmp 27))), ((some 9), .op (.mov (.tmp 28)))]⟩]) <|
  .region false [⟨none, [((some 29), .op (.mov (.tmp 7))), ((some 30), .op (.mov (.tmp 9))), ((some 31), .op (.bslice 1 1 [(.val (.int .i64 0))] [(0, (.tmp 30))])), ((some 32), .op (.app 1 8 (.tmp 29) (.tmp 31))), ((some 33), .op (.loadF (some 4) (.tmp 3))), ((some 34), .op (.addr 2 (.tmp 3))), ((some 35), .op (.loadF none (.tmp 34))), ((some 36), .op (.mov (.tmp 9))), ((some 37), .op (.idx 3 (.tmp 35) (.tmp 36))), ((some 38), .op (.addr 1 (.tmp 37))), ((some 39), .op (.loadF none (.tmp 38))), ((some 40), .op (.mov (.tmp 2))), ((some 41), .call (.val (.fn 61 [] [])) [(.tmp 33), (.tmp 39), (.tmp 40)]), ((some 42), .op (.app 1 8 (.tmp 32) (.tmp 41))), ((some 7), .op (.mov (.tmp 42)))]⟩]) (.skip))) <|
  .region false [⟨none, [((some 14), .op (.mov (.tmp 8))), ((some 15), .op (.arith .add (.tmp 14) (.val (.val (.int .i64 1))))), ((some 8), .op (.mov (.tmp 15)))]⟩]
def S_gerundref14_tree : SF := ⟨.seq (.region false [⟨none, [((some 3), .op (.frz (.tmp 0))), ((some 6), .op (.mov (.val (.emp 1))))]⟩]) <|
  .seq (.region false [⟨none, [((some 7), .op (.mov (.val (.emp 1))))]⟩]) <|
  .seq (.seq (.region false [⟨none, [((some 8), .op (.mov (.val (.val (.int .i64 0)))))]⟩]) <|
  .block 0 (.loop B_gerundref14_tree_0)) <|
  .seq (.region false [⟨none, [((some 43), .op (.mov (.tmp 7))), ((some 6), .op (.mov (.tmp 43)))]⟩]) <|
  .ret,
  [.tmp 6], 44⟩
theorem S_gerundref14_tree_ok : compF Tryz.prog 61 [3] = some S_gerundref14_tree := by kernel_rfl

def B_gerundref14_word_0 : SC :=
  .seq (.seq (.region false [⟨none, [((some 9), .op (.mov (.tmp 8))), ((some 10), .op (.mov (.tmp 1))), ((some 11), .op (.len (.tmp 10))), ((some 12), .op (.arith .lss (.tmp 9) (.tmp 11)))]⟩]) <|
  .cond (.tmp 12) (.skip) (.exit 0)) <|
  .seq (.block 1 (.seq (.region false [⟨none, [((some 15), .op (.mov (.tmp 1))), ((some 16), .op (.mov (.tmp 8))), ((some 17), .op (.idx 1 (.tmp 15) (.tmp 16))), ((some 18), .op (.load none (.tmp 17))), ((some 19), .op (.arith .geq (.tmp 18) (.val (.val (.int .i64 0)))))]⟩]) <|
  .cond (.tmp 19) (.region false [⟨none, [((some 20), .op (.mov (.tmp 7))), ((some 21), .op (.mov (.tmp 1))), ((some 22), .op (.mov (.tmp 8))), ((some 23), .op (.idx 1 (.tmp 21) (.tmp 22))), ((some 24), .op (.load none (.tmp 23))), ((some 25), .op (.bslice 1 1 [(.val (.int .i64 0))] [(0, (.tmp 24))])), ((some 26), .op (.app 1 8 (.tmp 20) (.tmp 25))), ((some 7), .op (.mov (.tmp 26)))]⟩]) (.region false [⟨none, [((some 27), .op (.mov (.tmp 7))), ((some 28), .op (.load (some 4) (.tmp 3))), ((some 29), .op (.addr 2 (.tmp 3))), ((some 30), .op (.load none (.tmp 29))), ((some 31), .op (.mov (.tmp 2))), ((some 32), .op (.mov (.tmp 1))), ((some 33), .op (.mov (.tmp 8))), ((some 34), .op (.idx 1 (.tmp 32) (.tmp 33))), ((some 35), .op (.load none (.tmp 34))), ((some 36), .op (.arith .sub (.val (.val (.int .i64 (-1)))) (.tmp 35))), ((some 37), .op (.idx 1 (.tmp 31) (.tmp 36))), ((some 38), .op (.load none (.tmp 37))), ((some 39), .op (.idx 3 (.tmp 30) (.tmp 38))), ((some 40), .op (.addr 1 (.tmp 39))), ((some 41), .op (.load none (.tmp 40))), ((some 42), .op (.mov (.tmp 2))), ((some 43), .call (.val (.fn 66 [] [])) [(.tmp 28), (.tmp 41), (.tmp 42)]), ((some 44), .op (.app 1 8 (.tmp 27) (.tmp 43))), ((some 7), .op (.mov (.tmp 44)))]⟩]))) <|
  .region false [⟨none, [((some 13), .op (.mov (.tmp 8))), ((some 14), .op (.arith .add (.tmp 13) (.val (.val (.int .i64 1))))), ((some 8), .op (.mov (.tmp 14)))]⟩]
def S_gerundref14_word : SF := ⟨.seq (.region false [⟨none, [((some 3), .op (.frz (.tmp 0))), ((some 6), .op (.mov (.val (.emp 1))))]⟩]) <|
  .seq (.region false [⟨none, [((some 7), .op (.mov (.val (.emp 1))))]⟩]) <|
  .seq (.seq (.region false [⟨none, [((some 8), .op (.mov (.val (.val (.int .i64 0)))))]⟩]) <|
  .block 0 (.loop B_gerundref14_word_0)) <|
  .seq (.region false [⟨none, [((some 45), .op (.mov (.tmp 7))), ((some 6), .op (.mov (.tmp 45)))]⟩]) <|
  .ret,
  [.tmp 6], 46⟩
theorem S_gerundref14_word_ok : compF Tryz.prog 66 [3] = some S_gerundref14_word := by kernel_rfl

theorem rulesP_get {g : Gram} {m : Nat} (h : m < g.nons.length) : (rulesP g)[m]? = some (pAt (plansG g) m).rule := by
  have : m < (plansG g).length := by rw [plans_len]; exact h
  simp [rulesP, pAt, List.getD_eq_getElem?_getD, this]
theorem tree_take (g : Gram) (f : Nat) (l : List Int) (i : Nat) : (treeD g (plansG g) f (l.take i)).length ≤ (treeD g (plansG g) f l).length := by
  have := treeD_app g (plansG g) f (l.take i) (l.drop i)
  rw [List.take_append_drop] at this
  rw [this]; simp
theorem word_take (g : Gram) (f : Nat) (l : List Int) (i : Nat) : (wordD g (plansG g) f (l.take i)).length ≤ (wordD g (plansG g) f l).length := by
  have := wordD_app g (plansG g) f (l.take i) (l.drop i)
  rw [List.take_append_drop] at this
  rw [this]; simp
set_option maxHeartbeats 4000000 in
theorem mo_tree14 (g : Gram) (hg : g.Ok) (hf : g.Fine) : ∀ (f : Nat) (l : List Int), Short l → (∀ x ∈ l, In64 x ∧ (x < 0 → -1 - x < g.nons.length)) → UpP (plansG g) f l → (treeD g (plansG g) f l).length ≤ 100000 → ∀ H : View,
    MCall Tryz.prog 61 [.agg (encG g), encI l, encI (rulesP g)] H fun r H' => OwnA H' r 1 (intsE (treeD g (plansG g) f l)) ∧ Fresh H H' r := by
  intro f
  induction f using Nat.strongRecOn with
  | _ f ih =>
    intro l hl hn hu hb H0
    refine MCall.of mixed S_gerundref14_tree_ok ?_
    unfold Short at hl
    simp (disch := omega) only [↓wr, ↓reduceIte, wq, eq_self, ne_eq, implies_true, oneV, intOp, goI, splice, sBuild, fillE, nilB, isNil, Nat.reduceEqDiff, Nat.reduceAdd, Nat.reduceLT, Nat.reduceLeDiff, Int.reduceNeg, Int.reduceToNat, reduceCtorEq, decide_true, decide_false, S_gerundref14_tree, encI, encG, encS]
    refine LoopG.up l.length (fun i T H' => ∃ u, T 7 = u ∧ OwnA H' u 1 (intsE (treeD g (plansG g) f (l.take i))) ∧ Fresh H0 H' u ∧ T 1 = encI l ∧ T 2 = encI (rulesP g) ∧ T 3 = .fptr (encG g) 0 ∧ T 8 = gi i) ⟨.emp 1, rfl, by rw [List.take_zero, treeD_nil]; exact .nil, .emp, rfl, rfl, rfl, rfl⟩ ?_
    rintro i k T H hk ⟨u, t7, ho, hfr, t1, t2, t3, t8⟩
    simp (disch := omega) only [↓wr, ↓reduceIte, wq, eq_self, ne_eq, implies_true, oneV, intOp, goI, splice, sBuild, fillE, nilB, isNil, Nat.reduceEqDiff, Nat.reduceAdd, Nat.reduceLT, Nat.reduceLeDiff, Int.reduceNeg, Int.reduceToNat, reduceCtorEq, decide_true, decide_false, B_gerundref14_tree_0, t1, t2, t3, t7, t8, encI]
    refine GoB.dec (fun hc => ?_) (fun hc => ?_)
    · have hg1 : l[i]? = some (l[i]'(by omega)) := List.getElem?_eq_getElem (by omega)
      have hmem : l[i]'(by omega) ∈ l := List.getElem_mem _
      have htk : l.take (i + 1) = l.take i ++ [l[i]'(by omega)] := by rw [List.take_add_one, hg1]; rfl
      have hbt := tree_take g f l (i + 1)
      generalize l[i]'(by omega) = x at hg1 hmem htk
      obtain ⟨⟨hx1, hx2⟩, hx3⟩ := hn x hmem
      rw [htk, treeD_app] at hbt
      simp (disch := omega) only [↓wr, ↓reduceIte, wq, eq_self, ne_eq, implies_true, oneV, intOp, goI, splice, sBuild, fillE, nilB, isNil, Nat.reduceEqDiff, Nat.reduceAdd, Nat.reduceLT, Nat.reduceLeDiff, Int.reduceNeg, Int.reduceToNat, reduceCtorEq, decide_true, decide_false, t1, t2, t3, t7, t8, encI, List.getElem?_map, hg1]
      refine GoB.dec (fun hx => ?_) (fun hx => ?_)
      · obtain ⟨f, rfl⟩ : ∃ f', f = f' + 1 := by
          cases f with
          | zero => have := up_zero hu x hmem; omega
          | succ f => exact ⟨f, rfl⟩
        obtain ⟨hkn, hh⟩ := hu x hmem hx
        obtain ⟨ri, r, hi, hr, hra, hur, _⟩ := up_child (f := f) hkn (by push_cast at hh; exact hh)
        have hgr := rulesP_get (g := g) (m := nonN x) (by have := hx3 hx; unfold nonN; omega)
        have hmr := List.mem_of_getElem? hr
        have hrl : ri < g.rules.length := (List.getElem?_eq_some_iff.1 hr).1
        have hrw := hg.rule r hmr
        rw [treeD_non hx, hra, hi] at hbt
        rw [hi] at hgr
        simp only [List.length_append, List.length_cons] at hbt
        simp (disch := omega) only [↓wr, ↓reduceIte, wq, eq_self, ne_eq, implies_true, oneV, intOp, goI, splice, sBuild, fillE, nilB, isNil, Nat.reduceEqDiff, Nat.reduceAdd, Nat.reduceLT, Nat.reduceLeDiff, Int.reduceNeg, Int.reduceToNat, reduceCtorEq, decide_true, decide_false, t1, t2, t3, t7, t8, encI, List.getElem?_map, hg1, hgr]
        intro n hn1
        rw [elemsOf_new]
        simp (disch := omega) only [↓wr, ↓reduceIte, wq, eq_self, ne_eq, implies_true, oneV, intOp, goI, splice, sBuild, fillE, nilB, isNil, Nat.reduceEqDiff, Nat.reduceAdd, Nat.reduceLT, Nat.reduceLeDiff, Int.reduceNeg, Int.reduceToNat, reduceCtorEq, decide_true, decide_false, t1, t2, t3, t7, t8]
        refine goApp_all (ho.fresh hn1) (by simp [cellOk]) (by unfold limit; simp; omega) (by unfold limit; simp; omega) ?_
        intro u1 H1 ho1 hl1
        have hf1 := (hfr.put hn1).step hl1
        simp (disch := omega) only [↓wr, ↓reduceIte, wq, eq_self, ne_eq, implies_true, oneV, intOp, goI, splice, sBuild, fillE, nilB, isNil, Nat.reduceEqDiff, Nat.reduceAdd, Nat.reduceLT, Nat.reduceLeDiff, Int.reduceNeg, Int.reduceToNat, reduceCtorEq, decide_true, decide_false, t1, t2, t3, t7, t8, encG, encR, encI, encS, List.getElem?_map, hr]
        have ihc := ih f (by omega) r.right hrw.2.2.1 (fun y hy => ⟨hrw.2.2.2 y hy, fun hn => hf.neg hmr hy hn⟩) hur (by omega) H1
        simp only [encG, encI, encS] at ihc
        refine CallG.loud (ihc.mono ?_)
        rintro v H2 ⟨hv, hfv⟩
        obtain ⟨rd, he⟩ := hv.elems
        simp (disch := omega) only [↓wr, ↓reduceIte, wq, eq_self, ne_eq, implies_true, oneV, intOp, goI, splice, sBuild, fillE, nilB, isNil, Nat.reduceEqDiff, Nat.reduceAdd, Nat.reduceLT, Nat.reduceLeDiff, Int.reduceNeg, Int.reduceToNat, reduceCtorEq, decide_true, decide_false, t1, t2, t3, t7, t8, he]
        refine goApp_all (ho1.fresh' hfv) (by simp [List.all_map, cellOk]) (by unfold limit; simp; omega) (by unfold limit; simp; omega) ?_
        intro u3 H3 ho3 hl3
        simp (disch := omega) only [↓wr, ↓reduceIte, wq, eq_self, ne_eq, implies_true, oneV, intOp, goI, splice, sBuild, fillE, nilB, isNil, Nat.reduceEqDiff, Nat.reduceAdd, Nat.reduceLT, Nat.reduceLeDiff, Int.reduceNeg, Int.reduceToNat, reduceCtorEq, decide_true, decide_false, t1, t2, t3, t7, t8]
        refine up_next hk (by omega) ⟨u3, rfl, ?_, (hf1.call hfv).step hl3, t1, t2, t3, rfl⟩
        rw [htk, treeD_app, treeD_non hx, hra, hi]
        simpa using ho3
      · simp (disch := omega) only [↓wr, ↓reduceIte, wq, eq_self, ne_eq, implies_true, oneV, intOp, goI, splice, sBuild, fillE, nilB, isNil, Nat.reduceEqDiff, Nat.reduceAdd, Nat.reduceLT, Nat.reduceLeDiff, Int.reduceNeg, Int.reduceToNat, reduceCtorEq, decide_true, decide_false, t1, t2, t3, t7, t8, encI]
        refine up_next hk (by omega) ⟨u, t7, ?_, hfr, t1, t2, t3, rfl⟩
        rw [htk, treeD_app, treeD_term (by omega), List.append_nil]; exact ho
    · simp (disch := omega) only [↓wr, ↓reduceIte, wq, eq_self, ne_eq, implies_true, oneV, intOp, goI, splice, sBuild, fillE, nilB, isNil, Nat.reduceEqDiff, Nat.reduceAdd, Nat.reduceLT, Nat.reduceLeDiff, Int.reduceNeg, Int.reduceToNat, reduceCtorEq, decide_true, decide_false, t1, t2, t3, t7, t8]
      rw [List.take_of_length_le (by omega)] at ho
      exact ⟨ho, hfr⟩

set_option maxHeartbeats 4000000 in
/-- The same, of one nonterminal in a new list. -/
theorem mo_tree14_one (g : Gram) (hg : g.Ok) (hf : g.Fine) (f : Nat) (x : Int) (hx : In64 x) (hx0 : x < 0) (hx1 : -1 - x < g.nons.length) (hu : UpP (plansG g) f [x]) (hb : (treeD g (plansG g) f [x]).length ≤ 100000) (H0 : View) (m : Nat) (hm : H0 m = .arr 1 [[gi x]]) :
    MCall Tryz.prog 61 [.agg (encG g), .sl m 0 1 1, encI (rulesP g)] H0 fun r H' => OwnA H' r 1 (intsE (treeD g (plansG g) f [x])) ∧ Fresh H0 H' r := by
  unfold In64 at hx
  refine MCall.of mixed S_gerundref14_tree_ok ?_
  simp (disch := omega) only [↓wr, ↓reduceIte, wq, eq_self, ne_eq, implies_true, oneV, intOp, goI, splice, sBuild, fillE, nilB, isNil, Nat.reduceEqDiff, Nat.reduceAdd, Nat.reduceLT, Nat.reduceLeDiff, Int.reduceNeg, Int.reduceToNat, reduceCtorEq, decide_true, decide_false, S_gerundref14_tree, encI, encG, encS]
  refine LoopG.up 1 (fun i T H' => ((i = 0 ∧ T 7 = .emp 1 ∧ H' = H0) ∨ (i = 1 ∧ ∃ u, T 7 = u ∧ OwnA H' u 1 (intsE (treeD g (plansG g) f [x])) ∧ Fresh H0 H' u)) ∧ T 1 = .sl m 0 1 1 ∧ T 2 = encI (rulesP g) ∧ T 3 = .fptr (encG g) 0 ∧ T 8 = gi i) ⟨.inl ⟨rfl, rfl, rfl⟩, rfl, rfl, rfl, rfl⟩ ?_
  rintro i k T H hk ⟨h7, t1, t2, t3, t8⟩
  rcases h7 with ⟨rfl, t7, rfl⟩ | ⟨rfl, u, t7, ho, hfr⟩
  · simp (disch := omega) only [↓wr, ↓reduceIte, wq, eq_self, ne_eq, implies_true, oneV, intOp, goI, splice, sBuild, fillE, nilB, isNil, Nat.reduceEqDiff, Nat.reduceAdd, Nat.reduceLT, Nat.reduceLeDiff, Int.reduceNeg, Int.reduceToNat, reduceCtorEq, decide_true, decide_false, B_gerundref14_tree_0, t1, t2, t3, t7, t8]
    refine GoB.dec (fun _ => ?_) (fun hc => absurd hc (by decide))
    simp (disch := omega) only [↓wr, ↓reduceIte, wq, eq_self, ne_eq, implies_true, oneV, intOp, goI, splice, sBuild, fillE, nilB, isNil, Nat.reduceEqDiff, Nat.reduceAdd, Nat.reduceLT, Nat.reduceLeDiff, Int.reduceNeg, Int.reduceToNat, reduceCtorEq, decide_true, decide_false, t1, t2, t3, t7, t8, hm]
    refine GoB.dec (fun _ => ?_) (fun hc => absurd hx0 hc)
    obtain ⟨f, rfl⟩ : ∃ f', f = f' + 1 := by
      cases f with
      | zero => have := up_zero hu x (by simp); omega
      | succ f => exact ⟨f, rfl⟩
    obtain ⟨hkn, hh⟩ := hu x (by simp) hx0
    obtain ⟨ri, r, hi, hr, hra, hur, _⟩ := up_child (f := f) hkn (by push_cast at hh; exact hh)
    have hgr := rulesP_get (g := g) (m := nonN x) (by unfold nonN; omega)
    have hmr := List.mem_of_getElem? hr
    have hrl : ri < g.rules.length := (List.getElem?_eq_some_iff.1 hr).1
    have hrw := hg.rule r hmr
    rw [treeD_non hx0, hra, hi] at hb ⊢
    rw [hi] at hgr
    simp only [List.length_cons] at hb
    simp (disch := omega) only [↓wr, ↓reduceIte, wq, eq_self, ne_eq, implies_true, oneV, intOp, goI, splice, sBuild, fillE, nilB, isNil, Nat.reduceEqDiff, Nat.reduceAdd, Nat.reduceLT, Nat.reduceLeDiff, Int.reduceNeg, Int.reduceToNat, reduceCtorEq, decide_true, decide_false, t1, t2, t3, t7, t8, hm, encI, List.getElem?_map, hgr]
    intro n hn1
    rw [elemsOf_new]
    simp (disch := omega) only [↓wr, ↓reduceIte, wq, eq_self, ne_eq, implies_true, oneV, intOp, goI, splice, sBuild, fillE, nilB, isNil, Nat.reduceEqDiff, Nat.reduceAdd, Nat.reduceLT, Nat.reduceLeDiff, Int.reduceNeg, Int.reduceToNat, reduceCtorEq, decide_true, decide_false, t1, t2, t3, t7, t8]
    refine goApp_all (OwnA.nil (sz := 1) (k := 1)) (by simp [cellOk]) (by unfold limit; simp) (by unfold limit; simp) ?_
    intro u1 H1 ho1 hl1
    have hf1 := ((Fresh.emp (H := H) (k := 1)).put hn1).step hl1
    simp (disch := omega) only [↓wr, ↓reduceIte, wq, eq_self, ne_eq, implies_true, oneV, intOp, goI, splice, sBuild, fillE, nilB, isNil, Nat.reduceEqDiff, Nat.reduceAdd, Nat.reduceLT, Nat.reduceLeDiff, Int.reduceNeg, Int.reduceToNat, reduceCtorEq, decide_true, decide_false, t1, t2, t3, t7, t8, encG, encR, encI, encS, List.getElem?_map, hr]
    have ihc := mo_tree14 g hg hf f r.right hrw.2.2.1 (fun y hy => ⟨hrw.2.2.2 y hy, fun hn => hf.neg hmr hy hn⟩) hur (by omega) H1
    simp only [encG, encI, encS] at ihc
    refine CallG.loud (ihc.mono ?_)
    rintro v H2 ⟨hv, hfv⟩
    obtain ⟨rd, he⟩ := hv.elems
    simp (disch := omega) only [↓wr, ↓reduceIte, wq, eq_self, ne_eq, implies_true, oneV, intOp, goI, splice, sBuild, fillE, nilB, isNil, Nat.reduceEqDiff, Nat.reduceAdd, Nat.reduceLT, Nat.reduceLeDiff, Int.reduceNeg, Int.reduceToNat, reduceCtorEq, decide_true, decide_false, t1, t2, t3, t7, t8, he]
    refine goApp_all (ho1.fresh' hfv) (by simp [List.all_map, cellOk]) (by unfold limit; simp; omega) (by unfold limit; simp; omega) ?_
    intro u3 H3 ho3 hl3
    simp (disch := omega) only [↓wr, ↓reduceIte, wq, eq_self, ne_eq, implies_true, oneV, intOp, goI, splice, sBuild, fillE, nilB, isNil, Nat.reduceEqDiff, Nat.reduceAdd, Nat.reduceLT, Nat.reduceLeDiff, Int.reduceNeg, Int.reduceToNat, reduceCtorEq, decide_true, decide_false, t1, t2, t3, t7, t8]
    exact ⟨0, by omega, 1, by omega, .inr ⟨rfl, u3, rfl, by simpa using ho3, (hf1.call hfv).step hl3⟩, t1, t2, t3, rfl⟩
  · simp (disch := omega) only [↓wr, ↓reduceIte, wq, eq_self, ne_eq, implies_true, oneV, intOp, goI, splice, sBuild, fillE, nilB, isNil, Nat.reduceEqDiff, Nat.reduceAdd, Nat.reduceLT, Nat.reduceLeDiff, Int.reduceNeg, Int.reduceToNat, reduceCtorEq, decide_true, decide_false, B_gerundref14_tree_0, t1, t2, t3, t7, t8]
    refine GoB.dec (fun hc => absurd hc (by decide)) (fun _ => ?_)
    simp (disch := omega) only [↓wr, ↓reduceIte, wq, eq_self, ne_eq, implies_true, oneV, intOp, goI, splice, sBuild, fillE, nilB, isNil, Nat.reduceEqDiff, Nat.reduceAdd, Nat.reduceLT, Nat.reduceLeDiff, Int.reduceNeg, Int.reduceToNat, reduceCtorEq, decide_true, decide_false, t1, t2, t3, t7, t8]
    exact ⟨ho, hfr⟩

set_option maxHeartbeats 4000000 in
theorem mo_word14 (g : Gram) (hg : g.Ok) (hf : g.Fine) : ∀ (f : Nat) (l : List Int), Short l → (∀ x ∈ l, In64 x ∧ (x < 0 → -1 - x < g.nons.length)) → UpP (plansG g) f l → (wordD g (plansG g) f l).length ≤ 100000 → ∀ H : View,
    MCall Tryz.prog 66 [.agg (encG g), encI l, encI (rulesP g)] H fun r H' => OwnA H' r 1 (intsE (wordD g (plansG g) f l)) ∧ Fresh H H' r := by
  intro f
  induction f using Nat.strongRecOn with
  | _ f ih =>
    intro l hl hn hu hb H0
    refine MCall.of mixed S_gerundref14_word_ok ?_
    unfold Short at hl
    simp (disch := omega) only [↓wr, ↓reduceIte, wq, eq_self, ne_eq, implies_true, oneV, intOp, goI, splice, sBuild, fillE, nilB, isNil, Nat.reduceEqDiff, Nat.reduceAdd, Nat.reduceLT, Nat.reduceLeDiff, Int.reduceNeg, Int.reduceToNat, reduceCtorEq, decide_true, decide_false, S_gerundref14_word, encI, encG, encS]
    refine LoopG.up l.length (fun i T H' => ∃ u, T 7 = u ∧ OwnA H' u 1 (intsE (wordD g (plansG g) f (l.take i))) ∧ Fresh H0 H' u ∧ T 1 = encI l ∧ T 2 = encI (rulesP g) ∧ T 3 = .fptr (encG g) 0 ∧ T 8 = gi i) ⟨.emp 1, rfl, by rw [List.take_zero, wordD_nil]; exact .nil, .emp, rfl, rfl, rfl, rfl⟩ ?_
    rintro i k T H hk ⟨u, t7, ho, hfr, t1, t2, t3, t8⟩
    simp (disch := omega) only [↓wr, ↓reduceIte, wq, eq_self, ne_eq, implies_true, oneV, intOp, goI, splice, sBuild, fillE, nilB, isNil, Nat.reduceEqDiff, Nat.reduceAdd, Nat.reduceLT, Nat.reduceLeDiff, Int.reduceNeg, Int.reduceToNat, reduceCtorEq, decide_true, decide_false, B_gerundref14_word_0, t1, t2, t3, t7, t8, encI]
    refine GoB.dec (fun hc => ?_) (fun hc => ?_)
    · have hg1 : l[i]? = some (l[i]'(by omega)) := List.getElem?_eq_getElem (by omega)
      have hmem : l[i]'(by omega) ∈ l := List.getElem_mem _
      have htk : l.take (i + 1) = l.take i ++ [l[i]'(by omega)] := by rw [List.take_add_one, hg1]; rfl
      have hbt := word_take g f l (i + 1)
      generalize l[i]'(by omega) = x at hg1 hmem htk
      obtain ⟨⟨hx1, hx2⟩, hx3⟩ := hn x hmem
      rw [htk, wordD_app] at hbt
      simp (disch := omega) only [↓wr, ↓reduceIte, wq, eq_self, ne_eq, implies_true, oneV, intOp, goI, splice, sBuild, fillE, nilB, isNil, Nat.reduceEqDiff, Nat.reduceAdd, Nat.reduceLT, Nat.reduceLeDiff, Int.reduceNeg, Int.reduceToNat, reduceCtorEq, decide_true, decide_false, t1, t2, t3, t7, t8, encI, List.getElem?_map, hg1]
      refine GoB.dec (fun hx => ?_) (fun hx => ?_)
      · rw [wordD_term (show 0 ≤ x from hx)] at hbt
        simp only [List.length_append, List.length_cons, List.length_nil] at hbt
        simp (disch := omega) only [↓wr, ↓reduceIte, wq, eq_self, ne_eq, implies_true, oneV, intOp, goI, splice, sBuild, fillE, nilB, isNil, Nat.reduceEqDiff, Nat.reduceAdd, Nat.reduceLT, Nat.reduceLeDiff, Int.reduceNeg, Int.reduceToNat, reduceCtorEq, decide_true, decide_false, t1, t2, t3, t7, t8, encI, List.getElem?_map, hg1]
        intro n hn1
        rw [elemsOf_new]
        simp (disch := omega) only [↓wr, ↓reduceIte, wq, eq_self, ne_eq, implies_true, oneV, intOp, goI, splice, sBuild, fillE, nilB, isNil, Nat.reduceEqDiff, Nat.reduceAdd, Nat.reduceLT, Nat.reduceLeDiff, Int.reduceNeg, Int.reduceToNat, reduceCtorEq, decide_true, decide_false, t1, t2, t3, t7, t8]
        refine goApp_all (ho.fresh hn1) (by simp [cellOk]) (by unfold limit; simp; omega) (by unfold limit; simp; omega) ?_
        intro u1 H1 ho1 hl1
        simp (disch := omega) only [↓wr, ↓reduceIte, wq, eq_self, ne_eq, implies_true, oneV, intOp, goI, splice, sBuild, fillE, nilB, isNil, Nat.reduceEqDiff, Nat.reduceAdd, Nat.reduceLT, Nat.reduceLeDiff, Int.reduceNeg, Int.reduceToNat, reduceCtorEq, decide_true, decide_false, t1, t2, t3, t7, t8]
        refine up_next hk (by omega) ⟨u1, rfl, ?_, (hfr.put hn1).step hl1, t1, t2, t3, rfl⟩
        rw [htk, wordD_app, wordD_term (show 0 ≤ x from hx)]
        simpa using ho1
      · obtain ⟨f, rfl⟩ : ∃ f', f = f' + 1 := by
          cases f with
          | zero => have := up_zero hu x hmem; omega
          | succ f => exact ⟨f, rfl⟩
        obtain ⟨hkn, hh⟩ := hu x hmem (by omega)
        obtain ⟨ri, r, hi, hr, hra, hur, _⟩ := up_child (f := f) hkn (by push_cast at hh; exact hh)
        have hgr := rulesP_get (g := g) (m := nonN x) (by have := hx3 (by omega); unfold nonN; omega)
        have hmr := List.mem_of_getElem? hr
        have hrl : ri < g.rules.length := (List.getElem?_eq_some_iff.1 hr).1
        have hrw := hg.rule r hmr
        rw [wordD_non (by omega), hra] at hbt
        rw [hi] at hgr
        simp only [List.length_append] at hbt
        simp (disch := omega) only [↓wr, ↓reduceIte, wq, eq_self, ne_eq, implies_true, oneV, intOp, goI, splice, sBuild, fillE, nilB, isNil, Nat.reduceEqDiff, Nat.reduceAdd, Nat.reduceLT, Nat.reduceLeDiff, Int.reduceNeg, Int.reduceToNat, reduceCtorEq, decide_true, decide_false, t1, t2, t3, t7, t8, encI, encG, encR, encS, List.getElem?_map, hg1, hgr, hr]
        have ihc := ih f (by omega) r.right hrw.2.2.1 (fun y hy => ⟨hrw.2.2.2 y hy, fun hn => hf.neg hmr hy hn⟩) hur (by omega) H
        simp only [encG, encI, encS] at ihc
        refine CallG.loud (ihc.mono ?_)
        rintro v H2 ⟨hv, hfv⟩
        obtain ⟨rd, he⟩ := hv.elems
        simp (disch := omega) only [↓wr, ↓reduceIte, wq, eq_self, ne_eq, implies_true, oneV, intOp, goI, splice, sBuild, fillE, nilB, isNil, Nat.reduceEqDiff, Nat.reduceAdd, Nat.reduceLT, Nat.reduceLeDiff, Int.reduceNeg, Int.reduceToNat, reduceCtorEq, decide_true, decide_false, t1, t2, t3, t7, t8, he]
        refine goApp_all (ho.fresh' hfv) (by simp [List.all_map, cellOk]) (by unfold limit; simp; omega) (by unfold limit; simp; omega) ?_
        intro u3 H3 ho3 hl3
        simp (disch := omega) only [↓wr, ↓reduceIte, wq, eq_self, ne_eq, implies_true, oneV, intOp, goI, splice, sBuild, fillE, nilB, isNil, Nat.reduceEqDiff, Nat.reduceAdd, Nat.reduceLT, Nat.reduceLeDiff, Int.reduceNeg, Int.reduceToNat, reduceCtorEq, decide_true, decide_false, t1, t2, t3, t7, t8]
        refine up_next hk (by omega) ⟨u3, rfl, ?_, (hfr.call hfv).step hl3, t1, t2, t3, rfl⟩
        rw [htk, wordD_app, wordD_non (by omega), hra]
        simpa using ho3
    · simp (disch := omega) only [↓wr, ↓reduceIte, wq, eq_self, ne_eq, implies_true, oneV, intOp, goI, splice, sBuild, fillE, nilB, isNil, Nat.reduceEqDiff, Nat.reduceAdd, Nat.reduceLT, Nat.reduceLeDiff, Int.reduceNeg, Int.reduceToNat, reduceCtorEq, decide_true, decide_false, t1, t2, t3, t7, t8]
      rw [List.take_of_length_le (by omega)] at ho
      exact ⟨ho, hfr⟩

end Gv

/-
  The least tree of a nonterminal, the least sentence of symbols: what the document answers.
  Conditions: lists that are no longer than an int says, numbers that are ints.
-/
set_option linter.unusedSimpArgs false
set_option maxRecDepth 100000
namespace Gv
open Go Go.Proofs

def outA (x : List Int × Int) : V := .tup [encI x.1, gi x.2]
def treeA (g : Gram) (n : Int) : List Int × Int :=
  if (right09 g && decide (0 ≤ n) && decide (n < g.nons.length)) = true then
    (if (pAt (plansG g) n.toNat).rule < 0 then ([], 9) else if 300 < (pAt (plansG g) n.toNat).rules then ([], 13) else (treeD g (plansG g) g.nons.length [-1 - n], 0))
  else ([], 1)
def wordA (g : Gram) (l : List Int) : List Int × Int :=
  if (right09 g && l.all (hasG g)) = true then
    (if (sumP (plansG g) l zeroP).2 = false then ([], 9) else if 300 < (sumP (plansG g) l zeroP).1.rules ∨ 60 < (sumP (plansG g) l zeroP).1.terms then ([], 13) else (wordD g (plansG g) g.nons.length l, 0))
  else ([], 1)

theorem frn_outA {h : Heap} {u : V} {x : List Int × Int} (hu : FrN h u (encI x.1)) : FrN h (.tup [u, gi x.2]) (outA x) := frn_tup2 hu (.val _)

theorem up_all {g : Gram} {l : List Int} (h : AllK (plansG g) l) : UpP (plansG g) g.nons.length l := fun x hx hn => ⟨h x hx hn, (plans_known (h x hx hn)).2⟩
theorem tree_one {g : Gram} {n : Int} (h0 : 0 ≤ n) (hk : Known (plansG g) n.toNat) : ((treeD g (plansG g) g.nons.length [-1 - n]).length : Int) = (treeD g (plansG g) g.nons.length [-1 - n]).length ∧ AllK (plansG g) [-1 - n] := by
  refine ⟨rfl, fun x hx hn => ?_⟩
  simp at hx; subst hx
  rw [show nonN (-1 - n) = n.toNat by unfold nonN; omega]; exact hk
theorem tree_size {g : Gram} {l : List Int} (h : AllK (plansG g) l) (hs : (sumP (plansG g) l zeroP).1.rules ≤ 300) : ((treeD g (plansG g) g.nons.length l).length : Int) = (sumP (plansG g) l zeroP).1.rules := by
  have := (size_tree g g.nons.length l zeroP (up_all h) pos_zero).1
  simp only [zeroP] at this hs ⊢
  omega
theorem word_size {g : Gram} {l : List Int} (h : AllK (plansG g) l) (hs : (sumP (plansG g) l zeroP).1.terms ≤ 60) : ((wordD g (plansG g) g.nons.length l).length : Int) = (sumP (plansG g) l zeroP).1.terms := by
  have := (size_tree g g.nons.length l zeroP (up_all h) pos_zero).2
  simp only [zeroP] at this hs ⊢
  omega
theorem sum_one {g : Gram} {n : Int} (h0 : 0 ≤ n) (hk : Known (plansG g) n.toNat) : (sumP (plansG g) [-1 - n] zeroP).1.rules = (pAt (plansG g) n.toNat).rules ∧ (sumP (plansG g) [-1 - n] zeroP).1.terms = (pAt (plansG g) n.toNat).terms := by
  have hp : PosP (pAt (plansG g) n.toNat) := stage_pos g _ _
  have e : nonN (-1 - n) = n.toNat := by unfold nonN; omega
  unfold Known at hk
  rw [sumP_non (by omega) (by rw [e]; omega), e]
  unfold PosP at hp
  simp only [sumP, zeroP]; omega

def S_gerundref14_Tree : SF := ⟨.seq (.region false [⟨none, [((some 2), .op (.frz (.tmp 0))), ((some 4), .op (.mov (.val (.emp 1)))), ((some 5), .op (.mov (.val (.val (.int .i64 0)))))]⟩]) <|
  .seq (.seq (.region false [⟨none, [((some 7), .op (.load (some 4) (.tmp 2))), ((some 8), .call (.val (.fn 28 [] [])) [(.tmp 7)]), ((some 9), .op (.not (.tmp 8))), ((some 10), .op (.mov (.tmp 9)))]⟩, ⟨(some (10, false)), [((some 11), .op (.mov (.tmp 1))), ((some 12), .op (.arith .lss (.tmp 11) (.val (.val (.int .i64 0)))))]⟩, ⟨none, [((some 13), .op (.pick (.tmp 10) (.val (.val (.bool true))) (.tmp 12))), ((some 14), .op (.mov (.tmp 13)))]⟩, ⟨(some (14, false)), [((some 15), .op (.mov (.tmp 1))), ((some 16), .op (.addr 1 (.tmp 2))), ((some 17), .op (.load none (.tmp 16))), ((some 18), .op (.len (.tmp 17))), ((some 19), .op (.arith .geq (.tmp 15) (.tmp 18)))]⟩, ⟨none, [((some 20), .op (.pick (.tmp 14) (.val (.val (.bool true))) (.tmp 19)))]⟩]) <|
  .cond (.tmp 20) (.seq (.region false [⟨none, [((some 4), .op (.mov (.val (.emp 1)))), ((some 5), .op (.mov (.val (.val (.int .i64 1)))))]⟩]) <|
  .ret) (.skip)) <|
  .seq (.region false [⟨none, [((some 21), .op (.load (some 4) (.tmp 2))), ((some 22), .call (.val (.fn 35 [] [])) [(.tmp 21)]), ((some 6), .op (.mov (.tmp 22)))]⟩]) <|
  .seq (.seq (.region false [⟨none, [((some 23), .op (.mov (.tmp 6))), ((some 24), .op (.mov (.tmp 1))), ((some 25), .op (.idx 1 (.tmp 23) (.tmp 24))), ((some 26), .op (.load none (.tmp 25))), ((some 27), .op (.arith .lss (.tmp 26) (.val (.val (.int .i64 0)))))]⟩]) <|
  .cond (.tmp 27) (.seq (.region false [⟨none, [((some 4), .op (.mov (.val (.emp 1)))), ((some 5), .op (.mov (.val (.val (.int .i64 9)))))]⟩]) <|
  .ret) (.skip)) <|
  .seq (.seq (.region false [⟨none, [((some 28), .op (.load (some 4) (.tmp 2))), ((some 29), .call (.val (.fn 60 [] [])) [(.tmp 28)]), ((some 30), .op (.mov (.tmp 1))), ((some 31), .op (.idx 2 (.tmp 29) (.tmp 30))), ((some 32), .op (.addr 0 (.tmp 31))), ((some 33), .op (.load none (.tmp 32))), ((some 34), .op (.arith .gtr (.tmp 33) (.val (.val (.int .i64 300)))))]⟩]) <|
  .cond (.tmp 34) (.seq (.region false [⟨none, [((some 4), .op (.mov (.val (.emp 1)))), ((some 5), .op (.mov (.val (.val (.int .i64 13)))))]⟩]) <|
  .ret) (.skip)) <|
  .seq (.region false [⟨none, [((some 35), .op (.load (some 4) (.tmp 2))), ((some 36), .op (.mov (.tmp 1))), ((some 37), .op (.arith .sub (.val (.val (.int .i64 (-1)))) (.tmp 36))), ((some 38), .op (.bslice 1 1 [(.val (.int .i64 0))] [(0, (.tmp 37))])), ((some 39), .op (.mov (.tmp 6))), ((some 40), .call (.val (.fn 61 [] [])) [(.tmp 35), (.tmp 38), (.tmp 39)]), ((some 4), .op (.mov (.tmp 40))), ((some 5), .op (.mov (.val (.val (.int .i64 0)))))]⟩]) <|
  .ret,
  [.tmp 4, .tmp 5], 41⟩
theorem S_gerundref14_Tree_ok : compF Tryz.prog 37 [2] = some S_gerundref14_Tree := by kernel_rfl

set_option maxHeartbeats 4000000 in
theorem pn_Tree14 (g : Gram) (hg : g.Ok) (n : Int) (hn : In64 n) : PNew Tryz.prog 37 [.agg (encG g), gi n] (outA (treeA g n)) := by
  have hsh := hg.nons
  unfold Short at hsh
  unfold In64 at hn
  refine PNew.of (gi_trees g n) ?_
  refine MCall.of mixed S_gerundref14_Tree_ok ?_
  simp (disch := omega) only [↓wr, ↓reduceIte, wq, eq_self, ne_eq, implies_true, oneV, intOp, goI, splice, sBuild, fillE, nilB, isNil, Nat.reduceEqDiff, Nat.reduceAdd, Nat.reduceLT, Nat.reduceLeDiff, Int.reduceNeg, Int.reduceToNat, reduceCtorEq, decide_true, decide_false, S_gerundref14_Tree, encG, encS]
  refine CallG.pure (pc_Right09 g hg) (by kernel_rfl) ?_
  have bad : ∀ h' : Heap, (right09 g && decide (0 ≤ n) && decide (n < g.nons.length)) = false → FrN h' (.tup [.emp 1, gi 1]) (outA (treeA g n)) := fun h' e => by
    unfold treeA; rw [if_neg (by rw [e]; simp)]; exact frn_outA (x := ([], 1)) (.emp _)
  repeat' (first | (refine GoB.dec (fun _ => ?_) (fun _ => ?_)) | (refine GoB.eq (fun _ => ?_) (fun _ => ?_)) | (refine GoB.ne (fun _ => ?_) (fun _ => ?_)) | (refine GoB.split (fun _ => ?_) (fun _ => ?_)) | (simp (disch := omega) only [↓wr, ↓reduceIte, wq, eq_self, ne_eq, implies_true, oneV, intOp, goI, splice, sBuild, fillE, nilB, isNil, Nat.reduceEqDiff, Nat.reduceAdd, Nat.reduceLT, Nat.reduceLeDiff, Int.reduceNeg, Int.reduceToNat, reduceCtorEq, decide_true, decide_false, encG, encS]))
  all_goals first
    | (intro h' _; refine bad h' ?_; simp only [Bool.and_eq_false_iff, decide_eq_false_iff_not]; first | (left; left; assumption) | (left; right; omega) | (right; omega))
    | skip
  have hr : right09 g = true := by assumption
  have h0 : 0 ≤ n := by omega
  have h1 : n < g.nons.length := by omega
  have hf := right09_fine hr
  have z1 := hf.nons1
  have z2 := hf.nons
  have z3 := hf.rules
  have hR := pn_Rules14 g hg
  have hA : treeA g n = _ := if_pos (by simp [hr, h0, h1])
  rw [if_pos hr] at hR
  refine CallG.pure hR.pure (by kernel_rfl) ?_
  have hgr := rulesP_get (g := g) (m := n.toNat) (by omega)
  have hok := (stage_ok (g := g) z3 z2 n.toNat)
  have hok : OkP (pAt (plansG g) n.toNat) := hok
  unfold OkP PosP at hok
  simp (disch := omega) only [↓wr, ↓reduceIte, wq, eq_self, ne_eq, implies_true, oneV, intOp, goI, splice, sBuild, fillE, nilB, isNil, Nat.reduceEqDiff, Nat.reduceAdd, Nat.reduceLT, Nat.reduceLeDiff, Int.reduceNeg, Int.reduceToNat, reduceCtorEq, decide_true, decide_false, encI, List.getElem?_map, hgr]
  refine GoB.dec (fun hk => ?_) (fun hk => ?_)
  · simp (disch := omega) only [↓wr, ↓reduceIte, wq, eq_self, ne_eq, implies_true, oneV, intOp, goI, splice, sBuild, fillE, nilB, isNil, Nat.reduceEqDiff, Nat.reduceAdd, Nat.reduceLT, Nat.reduceLeDiff, Int.reduceNeg, Int.reduceToNat, reduceCtorEq, decide_true, decide_false]
    rw [if_pos hk] at hA
    intro h' _
    rw [hA]; exact frn_outA (x := ([], 9)) (.emp _)
  · rw [if_neg hk] at hA
    have hkn : Known (plansG g) n.toNat := by unfold Known; omega
    simp (disch := omega) only [↓wr, ↓reduceIte, wq, eq_self, ne_eq, implies_true, oneV, intOp, goI, splice, sBuild, fillE, nilB, isNil, Nat.reduceEqDiff, Nat.reduceAdd, Nat.reduceLT, Nat.reduceLeDiff, Int.reduceNeg, Int.reduceToNat, reduceCtorEq, decide_true, decide_false, encI, encG, encS, List.getElem?_map, hgr]
    refine CallG.pure (pn_sizes g hg hr).pure (by kernel_rfl) ?_
    have hgs := sAt_get (S := capsG g) (m := n.toNat) (by simp [capsG, plans_len]; omega)
    rw [sAt_caps] at hgs
    simp (disch := omega) only [↓wr, ↓reduceIte, wq, eq_self, ne_eq, implies_true, oneV, intOp, goI, splice, sBuild, fillE, nilB, isNil, Nat.reduceEqDiff, Nat.reduceAdd, Nat.reduceLT, Nat.reduceLeDiff, Int.reduceNeg, Int.reduceToNat, reduceCtorEq, decide_true, decide_false, encI, encG, encS, List.getElem?_map, hgs, encZ, capP]
    refine GoB.dec (fun hs => ?_) (fun hs => ?_)
    · simp (disch := omega) only [↓wr, ↓reduceIte, wq, eq_self, ne_eq, implies_true, oneV, intOp, goI, splice, sBuild, fillE, nilB, isNil, Nat.reduceEqDiff, Nat.reduceAdd, Nat.reduceLT, Nat.reduceLeDiff, Int.reduceNeg, Int.reduceToNat, reduceCtorEq, decide_true, decide_false]
      rw [if_pos (by omega)] at hA
      intro h' _
      rw [hA]; exact frn_outA (x := ([], 13)) (.emp _)
    · rw [if_neg (by omega)] at hA
      simp (disch := omega) only [↓wr, ↓reduceIte, wq, eq_self, ne_eq, implies_true, oneV, intOp, goI, splice, sBuild, fillE, nilB, isNil, Nat.reduceEqDiff, Nat.reduceAdd, Nat.reduceLT, Nat.reduceLeDiff, Int.reduceNeg, Int.reduceToNat, reduceCtorEq, decide_true, decide_false, encI, encG, encS]
      intro m
      try simp (disch := omega) only [↓wr, ↓reduceIte, wq, eq_self, ne_eq, implies_true, oneV, intOp, goI, splice, sBuild, fillE, nilB, isNil, Nat.reduceEqDiff, Nat.reduceAdd, Nat.reduceLT, Nat.reduceLeDiff, Int.reduceNeg, Int.reduceToNat, reduceCtorEq, decide_true, decide_false, encI, encG, encS]
      have hall := (tree_one h0 hkn).2
      have hso := sum_one h0 hkn
      have htl := tree_size hall (by rw [hso.1]; omega)
      have hone := mo_tree14_one g hg hf g.nons.length (-1 - n) (by unfold In64; omega) (by omega) (by omega) (up_all hall) (by omega) (View.set (fun _ => .dead) m (.arr 1 [[gi (-1 - n)]])) m (by simp [View.set])
      simp only [encG, encI, encS] at hone
      refine CallG.loud (hone.mono ?_)
      rintro v H1 ⟨hv, _⟩
      simp (disch := omega) only [↓wr, ↓reduceIte, wq, eq_self, ne_eq, implies_true, oneV, intOp, goI, splice, sBuild, fillE, nilB, isNil, Nat.reduceEqDiff, Nat.reduceAdd, Nat.reduceLT, Nat.reduceLeDiff, Int.reduceNeg, Int.reduceToNat, reduceCtorEq, decide_true, decide_false]
      intro h' hh
      rw [hA]; exact frn_outA (x := (_, 0)) (frn_ints (by rw [hh]; exact hv))

def B_gerundref14_Word_0 : SC :=
  .seq (.seq (.region false [⟨none, [((some 15), .op (.mov (.tmp 8))), ((some 16), .op (.mov (.tmp 1))), ((some 17), .op (.len (.tmp 16))), ((some 18), .op (.arith .lss (.tmp 15) (.tmp 17)))]⟩]) <|
  .cond (.tmp 18) (.skip) (.exit 0)) <|
  .seq (.block 1 (.seq (.seq (.region false [⟨none, [((some 21), .op (.load (some 4) (.tmp 2))), ((some 22), .op (.mov (.tmp 1))), ((some 23), .op (.mov (.tmp 8))), ((some 24), .op (.idx 1 (.tmp 22) (.tmp 23))), ((some 25), .op (.load none (.tmp 24))), ((some 26), .call (.val (.fn 30 [] [])) [(.tmp 21), (.tmp 25)]), ((some 27), .op (.not (.tmp 26)))]⟩]) <|
  .cond (.tmp 27) (.seq (.region false [⟨none, [((some 4), .op (.mov (.val (.emp 1)))), ((some 5), .op (.mov (.val (.val (.int .i64 1)))))]⟩]) <|
  .ret) (.skip)) <|
  .region false [⟨none, [((some 28), .op (.mov (.tmp 7))), ((some 29), .op (.mov (.tmp 28)))]⟩, ⟨(some (29, false)), [((some 30), .op (.mov (.tmp 1))), ((some 31), .op (.mov (.tmp 8))), ((some 32), .op (.idx 1 (.tmp 30) (.tmp 31))), ((some 33), .op (.load none (.tmp 32))), ((some 34), .op (.arith .lss (.tmp 33) (.val (.val (.int .i64 0))))), ((some 35), .op (.mov (.tmp 34)))]⟩, ⟨(some (35, true)), [((some 36), .op (.mov (.tmp 6))), ((some 37), .op (.mov (.tmp 1))), ((some 38), .op (.mov (.tmp 8))), ((some 39), .op (.idx 1 (.tmp 37) (.tmp 38))), ((some 40), .op (.load none (.tmp 39))), ((some 41), .op (.arith .sub (.val (.val (.int .i64 (-1)))) (.tmp 40))), ((some 42), .op (.idx 1 (.tmp 36) (.tmp 41))), ((some 43), .op (.load none (.tmp 42))), ((some 44), .op (.arith .lss (.tmp 43) (.val (.val (.int .i64 0)))))]⟩, ⟨(some (29, false)), [((some 45), .op (.pick (.tmp 35) (.tmp 44) (.val (.val (.bool false)))))]⟩, ⟨none, [((some 46), .op (.pick (.tmp 29) (.val (.val (.bool true))) (.tmp 45))), ((some 7), .op (.mov (.tmp 46)))]⟩])) <|
  .region false [⟨none, [((some 19), .op (.mov (.tmp 8))), ((some 20), .op (.arith .add (.tmp 19) (.val (.val (.int .i64 1))))), ((some 8), .op (.mov (.tmp 20)))]⟩]
def S_gerundref14_Word : SF := ⟨.seq (.region false [⟨none, [((some 2), .op (.frz (.tmp 0))), ((some 4), .op (.mov (.val (.emp 1)))), ((some 5), .op (.mov (.val (.val (.int .i64 0)))))]⟩]) <|
  .seq (.seq (.region false [⟨none, [((some 10), .op (.load (some 4) (.tmp 2))), ((some 11), .call (.val (.fn 28 [] [])) [(.tmp 10)]), ((some 12), .op (.not (.tmp 11)))]⟩]) <|
  .cond (.tmp 12) (.seq (.region false [⟨none, [((some 4), .op (.mov (.val (.emp 1)))), ((some 5), .op (.mov (.val (.val (.int .i64 1)))))]⟩]) <|
  .ret) (.skip)) <|
  .seq (.region false [⟨none, [((some 13), .op (.load (some 4) (.tmp 2))), ((some 14), .call (.val (.fn 35 [] [])) [(.tmp 13)]), ((some 6), .op (.mov (.tmp 14)))]⟩]) <|
  .seq (.region false [⟨none, [((some 7), .op (.mov (.val (.val (.bool false)))))]⟩]) <|
  .seq (.seq (.region false [⟨none, [((some 8), .op (.mov (.val (.val (.int .i64 0)))))]⟩]) <|
  .block 0 (.loop B_gerundref14_Word_0)) <|
  .seq (.seq (.region false [⟨none, [((some 47), .op (.mov (.tmp 7)))]⟩]) <|
  .cond (.tmp 47) (.seq (.region false [⟨none, [((some 4), .op (.mov (.val (.emp 1)))), ((some 5), .op (.mov (.val (.val (.int .i64 9)))))]⟩]) <|
  .ret) (.skip)) <|
  .seq (.region false [⟨none, [((some 48), .op (.mov (.tmp 1))), ((some 49), .op (.load (some 4) (.tmp 2))), ((some 50), .call (.val (.fn 60 [] [])) [(.tmp 49)]), ((some 51), .call (.val (.fn 65 [] [])) [(.tmp 48), (.tmp 50)]), ((some 9), .op (.alloc [(.val (.int .i64 0)), (.val (.int .i64 0))])), (none, .op (.store 2 (.tmp 9) (.tmp 51)))]⟩]) <|
  .seq (.seq (.region false [⟨none, [((some 52), .op (.addr 0 (.tmp 9))), ((some 53), .op (.load none (.tmp 52))), ((some 54), .op (.arith .gtr (.tmp 53) (.val (.val (.int .i64 300))))), ((some 55), .op (.mov (.tmp 54)))]⟩, ⟨(some (55, false)), [((some 56), .op (.addr 1 (.tmp 9))), ((some 57), .op (.load none (.tmp 56))), ((some 58), .op (.arith .gtr (.tmp 57) (.val (.val (.int .i64 60)))))]⟩, ⟨none, [((some 59), .op (.pick (.tmp 55) (.val (.val (.bool true))) (.tmp 58)))]⟩]) <|
  .cond (.tmp 59) (.seq (.region false [⟨none, [((some 4), .op (.mov (.val (.emp 1)))), ((some 5), .op (.mov (.val (.val (.int .i64 13)))))]⟩]) <|
  .ret) (.skip)) <|
  .seq (.region false [⟨none, [((some 60), .op (.load (some 4) (.tmp 2))), ((some 61), .op (.mov (.tmp 1))), ((some 62), .op (.mov (.tmp 6))), ((some 63), .call (.val (.fn 66 [] [])) [(.tmp 60), (.tmp 61), (.tmp 62)]), ((some 4), .op (.mov (.tmp 63))), ((some 5), .op (.mov (.val (.val (.int .i64 0)))))]⟩]) <|
  .ret,
  [.tmp 4, .tmp 5], 64⟩
theorem S_gerundref14_Word_ok : compF Tryz.prog 39 [2] = some S_gerundref14_Word := by kernel_rfl

/-- Has one of these symbols no plan? -/
def noPlan (P : List Plan) (l : List Int) : Bool := l.any fun x => decide (x < 0) && decide ((pAt P (nonN x)).rule < 0)
theorem noPlan_sum (P : List Plan) (l : List Int) (s : Plan) : (sumP P l s).2 = !noPlan P l := by
  have h := sumP_ok P l s
  cases hb : noPlan P l with
  | true =>
    simp only [noPlan, List.any_eq_true, Bool.and_eq_true, decide_eq_true_eq] at hb
    obtain ⟨x, hx, hn, hk⟩ := hb
    cases hs : (sumP P l s).2 with
    | true => have := h.1 hs x hx hn; unfold Known at this; omega
    | false => rfl
  | false =>
    rw [Bool.not_false, h]
    intro x hx hn
    simp only [noPlan, List.any_eq_false, Bool.and_eq_true, decide_eq_true_eq] at hb
    have := hb x hx
    unfold Known; omega

set_option maxHeartbeats 4000000 in
theorem pn_Word14 (g : Gram) (hg : g.Ok) (l : List Int) (hl : l.length ≤ 50) (hn : ∀ x ∈ l, In64 x) : PNew Tryz.prog 39 [.agg (encG g), encI l] (outA (wordA g l)) := by
  have hsl : Short l := by unfold Short; omega
  refine PNew.of (by
    intro v hv; simp at hv
    rcases hv with rfl | rfl
    · exact tree_agg _ (encG_tree g)
    · exact encI_tree l) ?_
  refine MCall.of mixed S_gerundref14_Word_ok ?_
  simp (disch := omega) only [↓wr, ↓reduceIte, wq, eq_self, ne_eq, implies_true, oneV, intOp, goI, splice, sBuild, fillE, nilB, isNil, Nat.reduceEqDiff, Nat.reduceAdd, Nat.reduceLT, Nat.reduceLeDiff, Int.reduceNeg, Int.reduceToNat, reduceCtorEq, decide_true, decide_false, S_gerundref14_Word, encG, encS]
  refine CallG.pure (pc_Right09 g hg) (by kernel_rfl) ?_
  have bad : ∀ h' : Heap, (right09 g && l.all (hasG g)) = false → FrN h' (.tup [.emp 1, gi 1]) (outA (wordA g l)) := fun h' e => by
    unfold wordA; rw [if_neg (by rw [e]; simp)]; exact frn_outA (x := ([], 1)) (.emp _)
  repeat' (first | (refine GoB.dec (fun _ => ?_) (fun _ => ?_)) | (refine GoB.eq (fun _ => ?_) (fun _ => ?_)) | (refine GoB.ne (fun _ => ?_) (fun _ => ?_)) | (refine GoB.split (fun _ => ?_) (fun _ => ?_)) | (simp (disch := omega) only [↓wr, ↓reduceIte, wq, eq_self, ne_eq, implies_true, oneV, intOp, goI, splice, sBuild, fillE, nilB, isNil, Nat.reduceEqDiff, Nat.reduceAdd, Nat.reduceLT, Nat.reduceLeDiff, Int.reduceNeg, Int.reduceToNat, reduceCtorEq, decide_true, decide_false, encG, encS]))
  · rename_i hr
    have hf := right09_fine hr
    have z1 := hf.nons1
    have z2 := hf.nons
    have z3 := hf.rules
    have hR := pn_Rules14 g hg
    rw [if_pos hr] at hR
    refine CallG.pure hR.pure (by kernel_rfl) ?_
    simp (disch := omega) only [↓wr, ↓reduceIte, wq, eq_self, ne_eq, implies_true, oneV, intOp, goI, splice, sBuild, fillE, nilB, isNil, Nat.reduceEqDiff, Nat.reduceAdd, Nat.reduceLT, Nat.reduceLeDiff, Int.reduceNeg, Int.reduceToNat, reduceCtorEq, decide_true, decide_false, encI]
    refine LoopG.up l.length (fun i T H' => (l.take i).all (hasG g) = true ∧ T 1 = encI l ∧ T 2 = .fptr (encG g) 0 ∧ T 6 = encI (rulesP g) ∧ T 7 = gb (noPlan (plansG g) (l.take i)) ∧ T 8 = gi i) ⟨rfl, rfl, rfl, rfl, rfl, rfl⟩ ?_
    rintro i k T H hk ⟨hall, t1, t2, t6, t7, t8⟩
    simp (disch := omega) only [↓wr, ↓reduceIte, wq, eq_self, ne_eq, implies_true, oneV, intOp, goI, splice, sBuild, fillE, nilB, isNil, Nat.reduceEqDiff, Nat.reduceAdd, Nat.reduceLT, Nat.reduceLeDiff, Int.reduceNeg, Int.reduceToNat, reduceCtorEq, decide_true, decide_false, B_gerundref14_Word_0, t1, t2, t6, t7, t8, encI]
    refine GoB.dec (fun hc => ?_) (fun hc => ?_)
    · have hg1 : l[i]? = some (l[i]'(by omega)) := List.getElem?_eq_getElem (by omega)
      have hmem : l[i]'(by omega) ∈ l := List.getElem_mem _
      have htk : l.take (i + 1) = l.take i ++ [l[i]'(by omega)] := by rw [List.take_add_one, hg1]; rfl
      generalize l[i]'(by omega) = x at hg1 hmem htk
      have hx := hn x hmem
      have hx' := hx
      unfold In64 at hx'
      simp (disch := omega) only [↓wr, ↓reduceIte, wq, eq_self, ne_eq, implies_true, oneV, intOp, goI, splice, sBuild, fillE, nilB, isNil, Nat.reduceEqDiff, Nat.reduceAdd, Nat.reduceLT, Nat.reduceLeDiff, Int.reduceNeg, Int.reduceToNat, reduceCtorEq, decide_true, decide_false, t1, t2, t6, t7, t8, encI, encG, encS, List.getElem?_map, hg1]
      refine CallG.pure (pc_Has g x hx) (by kernel_rfl) ?_
      have hnp : noPlan (plansG g) (l.take (i + 1)) = (noPlan (plansG g) (l.take i) || (decide (x < 0) && decide ((pAt (plansG g) (nonN x)).rule < 0))) := by
        rw [htk]; simp [noPlan]
      have hal : (l.take (i + 1)).all (hasG g) = hasG g x := by
        rw [htk, List.all_append, hall]; simp
      generalize noPlan (plansG g) (l.take i) = b0 at t7 hnp
      simp (disch := omega) only [↓wr, ↓reduceIte, wq, eq_self, ne_eq, implies_true, oneV, intOp, goI, splice, sBuild, fillE, nilB, isNil, Nat.reduceEqDiff, Nat.reduceAdd, Nat.reduceLT, Nat.reduceLeDiff, Int.reduceNeg, Int.reduceToNat, reduceCtorEq, decide_true, decide_false, t1, t2, t6, t7, t8, encI, encG, encS, List.getElem?_map, hg1]
      refine GoB.split (fun hh => ?_) (fun hh => ?_)
      · have hnn : x < 0 → nonN x < g.nons.length := fun hx0 => by
          unfold hasG at hh
          rw [if_neg (by omega)] at hh
          simp at hh
          unfold nonN; omega
        rw [hh] at hal
        simp (disch := omega) only [↓wr, ↓reduceIte, wq, eq_self, ne_eq, implies_true, oneV, intOp, goI, splice, sBuild, fillE, nilB, isNil, Nat.reduceEqDiff, Nat.reduceAdd, Nat.reduceLT, Nat.reduceLeDiff, Int.reduceNeg, Int.reduceToNat, reduceCtorEq, decide_true, decide_false, t1, t2, t6, t7, t8, encI, encG, encS, List.getElem?_map, hg1]
        cases b0 with
        | true =>
          simp (disch := omega) only [↓wr, ↓reduceIte, wq, eq_self, ne_eq, implies_true, oneV, intOp, goI, splice, sBuild, fillE, nilB, isNil, Nat.reduceEqDiff, Nat.reduceAdd, Nat.reduceLT, Nat.reduceLeDiff, Int.reduceNeg, Int.reduceToNat, reduceCtorEq, decide_true, decide_false, t1, t2, t6, t7, t8, encI, encG, encS, List.getElem?_map, hg1]
          exact up_next hk (by omega) ⟨hal, t1, t2, t6, by rw [hnp]; rfl, rfl⟩
        | false =>
          rw [Bool.false_or] at hnp
          simp (disch := omega) only [↓wr, ↓reduceIte, wq, eq_self, ne_eq, implies_true, oneV, intOp, goI, splice, sBuild, fillE, nilB, isNil, Nat.reduceEqDiff, Nat.reduceAdd, Nat.reduceLT, Nat.reduceLeDiff, Int.reduceNeg, Int.reduceToNat, reduceCtorEq, decide_true, decide_false, t1, t2, t6, t7, t8, encI, encG, encS, List.getElem?_map, hg1]
          refine GoB.dec (fun hx0 => ?_) (fun hx0 => ?_)
          · have hgr := rulesP_get (hnn hx0)
            simp (disch := omega) only [↓wr, ↓reduceIte, wq, eq_self, ne_eq, implies_true, oneV, intOp, goI, splice, sBuild, fillE, nilB, isNil, Nat.reduceEqDiff, Nat.reduceAdd, Nat.reduceLT, Nat.reduceLeDiff, Int.reduceNeg, Int.reduceToNat, reduceCtorEq, decide_true, decide_false, t1, t2, t6, t7, t8, encI, encG, encS, List.getElem?_map, hg1, hgr]
            exact up_next hk (by omega) ⟨hal, t1, t2, t6, by rw [hnp, decide_eq_true hx0]; rfl, rfl⟩
          · simp (disch := omega) only [↓wr, ↓reduceIte, wq, eq_self, ne_eq, implies_true, oneV, intOp, goI, splice, sBuild, fillE, nilB, isNil, Nat.reduceEqDiff, Nat.reduceAdd, Nat.reduceLT, Nat.reduceLeDiff, Int.reduceNeg, Int.reduceToNat, reduceCtorEq, decide_true, decide_false, t1, t2, t6, t7, t8, encI, encG, encS, List.getElem?_map, hg1]
            exact up_next hk (by omega) ⟨hal, t1, t2, t6, by rw [hnp, decide_eq_false hx0]; rfl, rfl⟩
      · simp (disch := omega) only [↓wr, ↓reduceIte, wq, eq_self, ne_eq, implies_true, oneV, intOp, goI, splice, sBuild, fillE, nilB, isNil, Nat.reduceEqDiff, Nat.reduceAdd, Nat.reduceLT, Nat.reduceLeDiff, Int.reduceNeg, Int.reduceToNat, reduceCtorEq, decide_true, decide_false, t1, t2, t6, t7, t8]
        intro h' _
        refine bad h' ?_
        rw [Bool.and_eq_false_iff]; right
        rw [List.all_eq_false]
        exact ⟨x, hmem, by simp [hh]⟩
    · rw [List.take_of_length_le (by omega)] at hall t7
      have hA : wordA g l = _ := if_pos (by simp only [hr, hall, Bool.and_self])
      have hns := noPlan_sum (plansG g) l zeroP
      rw [hns] at hA
      cases hb : noPlan (plansG g) l with
      | true =>
        rw [hb] at t7 hA
        simp (disch := omega) only [↓wr, ↓reduceIte, wq, eq_self, ne_eq, implies_true, oneV, intOp, goI, splice, sBuild, fillE, nilB, isNil, Nat.reduceEqDiff, Nat.reduceAdd, Nat.reduceLT, Nat.reduceLeDiff, Int.reduceNeg, Int.reduceToNat, reduceCtorEq, decide_true, decide_false, t1, t2, t6, t7, t8]
        intro h' _
        rw [hA]; exact frn_outA (x := ([], 9)) (.emp _)
      | false =>
        rw [hb] at t7 hA hns
        have hak := (sumP_ok (plansG g) l zeroP).1 hns
        have hin : ∀ x ∈ l, In64 x ∧ (x < 0 → -1 - x < g.nons.length) := fun x hx => ⟨hn x hx, fun hx0 => by
          have := List.all_eq_true.1 hall x hx
          unfold hasG at this
          rw [if_neg (by omega)] at this
          simpa using this⟩
        simp (disch := omega) only [↓wr, ↓reduceIte, wq, eq_self, ne_eq, implies_true, oneV, intOp, goI, splice, sBuild, fillE, nilB, isNil, Nat.reduceEqDiff, Nat.reduceAdd, Nat.reduceLT, Nat.reduceLeDiff, Int.reduceNeg, Int.reduceToNat, reduceCtorEq, decide_true, decide_false, t1, t2, t6, t7, t8, encG, encS, encI]
        refine CallG.pure (pn_sizes g hg hr).pure (by kernel_rfl) ?_
        simp (disch := omega) only [↓wr, ↓reduceIte, wq, eq_self, ne_eq, implies_true, oneV, intOp, goI, splice, sBuild, fillE, nilB, isNil, Nat.reduceEqDiff, Nat.reduceAdd, Nat.reduceLT, Nat.reduceLeDiff, Int.reduceNeg, Int.reduceToNat, reduceCtorEq, decide_true, decide_false, t1, t2, t6, t7, t8, encG, encS, encI]
        have hpsz := pn_size l (capsG g) hsl (fun m => by rw [sAt_caps]; exact ok_cap g m) (fun x hx => ⟨(hin x hx).1, fun h => by simp only [capsG, List.length_map, plans_len]; exact (hin x hx).2 h⟩)
        have hpos : ∀ m, PosP (pAt (plansG g) m) := fun m => stage_pos g _ m
        have hss := size_sum hpos l zeroP (0, 0) pos_zero hak (fun x _ _ => sAt_caps g _) (S := capsG g) rfl
        have hps := sumP_pos hpos l zeroP pos_zero
        have hws := word_size hak
        rw [hss] at hpsz
        generalize hsp : (sumP (plansG g) l zeroP).1 = sp at hA hpsz hps hws
        unfold PosP at hps
        refine CallG.pure hpsz.pure (by kernel_rfl) ?_
        simp (disch := omega) only [↓wr, ↓reduceIte, wq, eq_self, ne_eq, implies_true, oneV, intOp, goI, splice, sBuild, fillE, nilB, isNil, Nat.reduceEqDiff, Nat.reduceAdd, Nat.reduceLT, Nat.reduceLeDiff, Int.reduceNeg, Int.reduceToNat, reduceCtorEq, decide_true, decide_false, t1, t2, t6, t7, t8, encZ, capP]
        intro n hn'
        try simp (disch := omega) only [↓wr, ↓reduceIte, wq, eq_self, ne_eq, implies_true, oneV, intOp, goI, splice, sBuild, fillE, nilB, isNil, Nat.reduceEqDiff, Nat.reduceAdd, Nat.reduceLT, Nat.reduceLeDiff, Int.reduceNeg, Int.reduceToNat, reduceCtorEq, decide_true, decide_false, t1, t2, t6, t7, t8, encZ, capP]
        refine GoB.dec (fun h3 => ?_) (fun h3 => ?_)
        · simp (disch := omega) only [↓wr, ↓reduceIte, wq, eq_self, ne_eq, implies_true, oneV, intOp, goI, splice, sBuild, fillE, nilB, isNil, Nat.reduceEqDiff, Nat.reduceAdd, Nat.reduceLT, Nat.reduceLeDiff, Int.reduceNeg, Int.reduceToNat, reduceCtorEq, decide_true, decide_false, t1, t2, t6, t7, t8]
          rw [if_neg (by simp), if_pos (.inl (by omega))] at hA
          intro h' _
          rw [hA]; exact frn_outA (x := ([], 13)) (.emp _)
        · simp (disch := omega) only [↓wr, ↓reduceIte, wq, eq_self, ne_eq, implies_true, oneV, intOp, goI, splice, sBuild, fillE, nilB, isNil, Nat.reduceEqDiff, Nat.reduceAdd, Nat.reduceLT, Nat.reduceLeDiff, Int.reduceNeg, Int.reduceToNat, reduceCtorEq, decide_true, decide_false, t1, t2, t6, t7, t8]
          refine GoB.dec (fun h4 => ?_) (fun h4 => ?_)
          · simp (disch := omega) only [↓wr, ↓reduceIte, wq, eq_self, ne_eq, implies_true, oneV, intOp, goI, splice, sBuild, fillE, nilB, isNil, Nat.reduceEqDiff, Nat.reduceAdd, Nat.reduceLT, Nat.reduceLeDiff, Int.reduceNeg, Int.reduceToNat, reduceCtorEq, decide_true, decide_false, t1, t2, t6, t7, t8]
            rw [if_neg (by simp), if_pos (.inr (by omega))] at hA
            intro h' _
            rw [hA]; exact frn_outA (x := ([], 13)) (.emp _)
          · rw [if_neg (by simp), if_neg (by omega)] at hA
            simp (disch := omega) only [↓wr, ↓reduceIte, wq, eq_self, ne_eq, implies_true, oneV, intOp, goI, splice, sBuild, fillE, nilB, isNil, Nat.reduceEqDiff, Nat.reduceAdd, Nat.reduceLT, Nat.reduceLeDiff, Int.reduceNeg, Int.reduceToNat, reduceCtorEq, decide_true, decide_false, t1, t2, t6, t7, t8, encI, encG, encS]
            have hw := mo_word14 g hg hf g.nons.length l hsl hin (up_all hak) (by have := hws (by omega); omega)
            simp only [encG, encI, encS] at hw
            refine CallG.loud ((hw _).mono ?_)
            rintro v H1 ⟨hv, _⟩
            simp (disch := omega) only [↓wr, ↓reduceIte, wq, eq_self, ne_eq, implies_true, oneV, intOp, goI, splice, sBuild, fillE, nilB, isNil, Nat.reduceEqDiff, Nat.reduceAdd, Nat.reduceLT, Nat.reduceLeDiff, Int.reduceNeg, Int.reduceToNat, reduceCtorEq, decide_true, decide_false, t1, t2, t6, t7, t8]
            intro h' hh
            rw [hA]; exact frn_outA (x := (_, 0)) (frn_ints (by rw [hh]; exact hv))
  · intro h' _
    refine bad h' ?_
    simp_all
end Gv

/-
  The least tree of a nonterminal, the least sentence of symbols: what the program's own functions answer.
  Conditions: lists that are no longer than an int says, numbers that are ints.
-/
set_option linter.unusedSimpArgs false
set_option maxRecDepth 100000
namespace Gv
open Go Go.Proofs

def B_least_writer_write_0 : SC :=
  .seq (.region false [⟨none, [((some 10), .op (.arith .lss (.tmp 9) (.tmp 8)))]⟩]) <|
  .seq (.cond (.tmp 10) (.skip) (.exit 0)) <|
  .seq (.block 1 (.seq (.region false [⟨none, [((some 11), .op (.idx 1 (.tmp 7) (.tmp 9))), ((some 12), .op (.load none (.tmp 11))), ((some 5), .op (.mov (.tmp 12)))]⟩]) <|
  .seq (.seq (.region false [⟨none, [((some 13), .op (.mov (.tmp 5))), ((some 14), .op (.arith .geq (.tmp 13) (.val (.val (.int .i64 0)))))]⟩]) <|
  .cond (.tmp 14) (.seq (.region false [⟨none, [((some 15), .op (.mov (.tmp 0))), ((some 16), .op (.mov (.tmp 0))), ((some 17), .op (.nilc (.tmp 16))), ((some 18), .op (.addr 6 (.tmp 17))), ((some 19), .op (.load none (.tmp 18))), ((some 20), .op (.mov (.tmp 5))), ((some 21), .op (.bslice 1 1 [(.val (.int .i64 0))] [(0, (.tmp 20))])), ((some 22), .op (.app 1 8 (.tmp 19) (.tmp 21))), ((some 23), .op (.nilc (.tmp 15))), ((some 24), .op (.addr 6 (.tmp 23))), (none, .op (.store 1 (.tmp 24) (.tmp 22)))]⟩]) <|
  .exit 1) (.skip)) <|
  .seq (.region false [⟨none, [((some 25), .op (.mov (.tmp 0))), ((some 26), .op (.nilc (.tmp 25))), ((some 27), .op (.addr 4 (.tmp 26))), ((some 28), .op (.load none (.tmp 27))), ((some 29), .op (.mov (.tmp 5))), ((some 30), .op (.arith .sub (.val (.val (.int .i64 (-1)))) (.tmp 29))), ((some 31), .op (.idx 4 (.tmp 28) (.tmp 30))), ((some 32), .op (.addr 0 (.tmp 31))), ((some 33), .op (.load none (.tmp 32))), ((some 6), .op (.mov (.tmp 33)))]⟩]) <|
  .seq (.region false [⟨none, [((some 34), .op (.mov (.tmp 0))), ((some 35), .op (.mov (.tmp 0))), ((some 36), .op (.nilc (.tmp 35))), ((some 37), .op (.addr 5 (.tmp 36))), ((some 38), .op (.load none (.tmp 37))), ((some 39), .op (.mov (.tmp 6))), ((some 40), .op (.bslice 1 1 [(.val (.int .i64 0))] [(0, (.tmp 39))])), ((some 41), .op (.app 1 8 (.tmp 38) (.tmp 40))), ((some 42), .op (.nilc (.tmp 34))), ((some 43), .op (.addr 5 (.tmp 42))), (none, .op (.store 1 (.tmp 43) (.tmp 41)))]⟩]) <|
  .region false [⟨none, [((some 44), .op (.mov (.tmp 0))), ((some 45), .op (.mov (.tmp 0))), ((some 46), .op (.nilc (.tmp 45))), ((some 47), .op (.addr 0 (.tmp 46))), ((some 48), .op (.addr 2 (.tmp 47))), ((some 49), .op (.load none (.tmp 48))), ((some 50), .op (.mov (.tmp 6))), ((some 51), .op (.idx 3 (.tmp 49) (.tmp 50))), ((some 52), .op (.addr 1 (.tmp 51))), ((some 53), .op (.load none (.tmp 52))), ((some 54), .call (.val (.fn 91 [] [])) [(.tmp 44), (.tmp 53)])]⟩])) <|
  .region false [⟨none, [((some 55), .op (.arith .add (.tmp 9) (.val (.val (.int .i64 1))))), ((some 9), .op (.mov (.tmp 55)))]⟩]
def S_least_writer_write : SF := ⟨.seq (.region false [⟨none, [((some 7), .op (.mov (.tmp 1))), ((some 8), .op (.len (.tmp 7))), ((some 9), .op (.mov (.val (.val (.int .i64 0)))))]⟩]) <|
  .block 0 (.loop B_least_writer_write_0),
  [], 56⟩
theorem S_least_writer_write_ok : compF Tryz.prog 91 [] = some S_least_writer_write := by kernel_rfl

/-- What a writer holds. -/
def encW (g : Gram) (r w : V) : List V := [.fro (g.terms.map encT), .fro (g.nons.map fun s => [gs s]), .fro (g.rules.map encR), gi g.start, encPs (plansG g), r, w]
def Wrt (g : Gram) (b : Nat) (R W : List Int) (H : View) : Prop := ∃ ur uw, Owns H [(.sl b 0 1 7, 7, [encW g ur uw]), (ur, 1, intsE R), (uw, 1, intsE W)]

set_option maxHeartbeats 4000000 in
theorem mo_write (g : Gram) (hg : g.Ok) (hf : g.Fine) (b : Nat) : ∀ (f : Nat) (l : List Int), Short l → (∀ x ∈ l, In64 x ∧ (x < 0 → -1 - x < g.nons.length)) → UpP (plansG g) f l → ∀ (R W : List Int) (H : View), (R ++ treeD g (plansG g) f l).length ≤ 100000 → (W ++ wordD g (plansG g) f l).length ≤ 100000 →
    Wrt g b R W H → MCall Tryz.prog 91 [.ptr b 0 0, encI l] H fun _ H' => Wrt g b (R ++ treeD g (plansG g) f l) (W ++ wordD g (plansG g) f l) H' := by
  intro f
  induction f using Nat.strongRecOn with
  | _ f ih =>
    intro l hl hn hu R W H0 hbR hbW ho0
    refine MCall.of mixed S_least_writer_write_ok ?_
    unfold Short at hl
    simp (disch := omega) only [↓wr, ↓reduceIte, wq, eq_self, ne_eq, implies_true, oneV, intOp, goI, splice, sBuild, fillE, nilB, isNil, Nat.reduceEqDiff, Nat.reduceAdd, Nat.reduceLT, Nat.reduceLeDiff, Int.reduceNeg, Int.reduceToNat, reduceCtorEq, decide_true, decide_false, S_least_writer_write, encI]
    refine LoopG.up l.length (fun i T H' => Wrt g b (R ++ treeD g (plansG g) f (l.take i)) (W ++ wordD g (plansG g) f (l.take i)) H' ∧ T 0 = .ptr b 0 0 ∧ T 7 = encI l ∧ T 8 = gi l.length ∧ T 9 = gi i) ⟨by rw [List.take_zero, treeD_nil, wordD_nil, List.append_nil, List.append_nil]; exact ho0, rfl, rfl, rfl, rfl⟩ ?_
    rintro i k T H hk ⟨⟨ur, uw, ho⟩, t0, t7, t8, t9⟩
    simp (disch := omega) only [↓wr, ↓reduceIte, wq, eq_self, ne_eq, implies_true, oneV, intOp, goI, splice, sBuild, fillE, nilB, isNil, Nat.reduceEqDiff, Nat.reduceAdd, Nat.reduceLT, Nat.reduceLeDiff, Int.reduceNeg, Int.reduceToNat, reduceCtorEq, decide_true, decide_false, B_least_writer_write_0, t0, t7, t8, t9, encI]
    refine GoB.dec (fun hc => ?_) (fun hc => ?_)
    · have hg1 : l[i]? = some (l[i]'(by omega)) := List.getElem?_eq_getElem (by omega)
      have hmem : l[i]'(by omega) ∈ l := List.getElem_mem _
      have htk : l.take (i + 1) = l.take i ++ [l[i]'(by omega)] := by rw [List.take_add_one, hg1]; rfl
      have hbt := tree_take g f l (i + 1)
      have hbw := word_take g f l (i + 1)
      generalize l[i]'(by omega) = x at hg1 hmem htk
      obtain ⟨⟨hx1, hx2⟩, hx3⟩ := hn x hmem
      rw [htk, treeD_app] at hbt
      rw [htk, wordD_app] at hbw
      simp only [List.length_append] at hbR hbW hbt hbw
      have hb := ho.is 0 rfl (by simp)
      simp (disch := omega) only [↓wr, ↓reduceIte, wq, eq_self, ne_eq, implies_true, oneV, intOp, goI, splice, sBuild, fillE, nilB, isNil, Nat.reduceEqDiff, Nat.reduceAdd, Nat.reduceLT, Nat.reduceLeDiff, Int.reduceNeg, Int.reduceToNat, reduceCtorEq, decide_true, decide_false, t0, t7, t8, t9, encI, List.getElem?_map, hg1]
      refine GoB.dec (fun hx => ?_) (fun hx => ?_)
      · rw [wordD_term (show 0 ≤ x from hx)] at hbw
        simp only [List.length_cons, List.length_nil] at hbw
        simp (disch := omega) only [↓wr, ↓reduceIte, wq, eq_self, ne_eq, implies_true, oneV, intOp, goI, splice, sBuild, fillE, nilB, isNil, Nat.reduceEqDiff, Nat.reduceAdd, Nat.reduceLT, Nat.reduceLeDiff, Int.reduceNeg, Int.reduceToNat, reduceCtorEq, decide_true, decide_false, t0, t7, t8, t9, hb, encW]
        intro n hn1
        rw [elemsOf_new]
        simp (disch := omega) only [↓wr, ↓reduceIte, wq, eq_self, ne_eq, implies_true, oneV, intOp, goI, splice, sBuild, fillE, nilB, isNil, Nat.reduceEqDiff, Nat.reduceAdd, Nat.reduceLT, Nat.reduceLeDiff, Int.reduceNeg, Int.reduceToNat, reduceCtorEq, decide_true, decide_false, t0, t7, t8, t9]
        refine goApp_owns ((ho.at 2 (by simp)).fresh hn1) (by simp [cellOk]) (by unfold limit; simp; omega) (by unfold limit; simp; omega) ?_
        intro u1 H1 o1 _
        simp only [List.eraseIdx_cons_succ, List.eraseIdx_cons_zero] at o1
        have hb1 := o1.is 1 rfl (by simp)
        have c1 := o1.head.cells
        have k1 := o1.head.cok
        simp (disch := omega) only [↓wr, ↓reduceIte, wq, eq_self, ne_eq, implies_true, oneV, intOp, goI, splice, sBuild, fillE, nilB, isNil, Nat.reduceEqDiff, Nat.reduceAdd, Nat.reduceLT, Nat.reduceLeDiff, Int.reduceNeg, Int.reduceToNat, reduceCtorEq, decide_true, decide_false, t0, t7, t8, t9, hb1, encW, c1, k1]
        have o2 := (o1.at 1 (by simp)).put (es' := [encW g ur u1]) rfl rfl
        simp only [List.eraseIdx_cons_succ, List.eraseIdx_cons_zero] at o2
        refine up_next hk (by omega) ⟨⟨ur, u1, ?_⟩, t0, t7, t8, rfl⟩
        rw [htk, treeD_app, wordD_app, treeD_term (show 0 ≤ x from hx), wordD_term (show 0 ≤ x from hx), List.append_nil]
        have o3 := o2.perm (.cons _ (.swap _ _ _))
        simpa [encW] using o3
      · obtain ⟨f, rfl⟩ : ∃ f', f = f' + 1 := by
          cases f with
          | zero => have := up_zero hu x hmem; omega
          | succ f => exact ⟨f, rfl⟩
        obtain ⟨hkn, hh⟩ := hu x hmem (by omega)
        obtain ⟨ri, r, hi, hr, hra, hur, _⟩ := up_child (f := f) hkn (by push_cast at hh; exact hh)
        have hgp := encPs_get (P := plansG g) (m := nonN x) (by rw [plans_len]; have := hx3 (by omega); unfold nonN; omega)
        have hmr := List.mem_of_getElem? hr
        have hrl : ri < g.rules.length := (List.getElem?_eq_some_iff.1 hr).1
        have hrw := hg.rule r hmr
        rw [treeD_non (by omega), hra, hi] at hbt
        rw [wordD_non (by omega), hra] at hbw
        simp only [List.length_cons] at hbt
        generalize hpx : pAt (plansG g) (nonN x) = p at hgp hi hra
        simp (disch := omega) only [↓wr, ↓reduceIte, wq, eq_self, ne_eq, implies_true, oneV, intOp, goI, splice, sBuild, fillE, nilB, isNil, Nat.reduceEqDiff, Nat.reduceAdd, Nat.reduceLT, Nat.reduceLeDiff, Int.reduceNeg, Int.reduceToNat, reduceCtorEq, decide_true, decide_false, t0, t7, t8, t9, hb, encW]
        simp (disch := omega) only [↓wr, ↓reduceIte, wq, eq_self, ne_eq, implies_true, oneV, intOp, goI, splice, sBuild, fillE, nilB, isNil, Nat.reduceEqDiff, Nat.reduceAdd, Nat.reduceLT, Nat.reduceLeDiff, Int.reduceNeg, Int.reduceToNat, reduceCtorEq, decide_true, decide_false, t0, t7, t8, t9, hb, encW, hgp, encPl, hi]
        intro n hn1
        rw [elemsOf_new]
        simp (disch := omega) only [↓wr, ↓reduceIte, wq, eq_self, ne_eq, implies_true, oneV, intOp, goI, splice, sBuild, fillE, nilB, isNil, Nat.reduceEqDiff, Nat.reduceAdd, Nat.reduceLT, Nat.reduceLeDiff, Int.reduceNeg, Int.reduceToNat, reduceCtorEq, decide_true, decide_false, t0, t7, t8, t9]
        refine goApp_owns ((ho.at 1 (by simp)).fresh hn1) (by simp [cellOk]) (by unfold limit; simp; omega) (by unfold limit; simp; omega) ?_
        intro u1 H1 o1 _
        simp only [List.eraseIdx_cons_succ, List.eraseIdx_cons_zero] at o1
        have hb1 := o1.is 1 rfl (by simp)
        have c1 := o1.head.cells
        have k1 := o1.head.cok
        simp (disch := omega) only [↓wr, ↓reduceIte, wq, eq_self, ne_eq, implies_true, oneV, intOp, goI, splice, sBuild, fillE, nilB, isNil, Nat.reduceEqDiff, Nat.reduceAdd, Nat.reduceLT, Nat.reduceLeDiff, Int.reduceNeg, Int.reduceToNat, reduceCtorEq, decide_true, decide_false, t0, t7, t8, t9, hb1, encW, c1, k1, encR, List.getElem?_map, hr, encI]
        have o2 := (o1.at 1 (by simp)).put (es' := [encW g u1 uw]) rfl rfl
        simp only [List.eraseIdx_cons_succ, List.eraseIdx_cons_zero] at o2
        have hcall := ih f (by omega) r.right hrw.2.2.1 (fun y hy => ⟨hrw.2.2.2 y hy, fun hn => hf.neg hmr hy hn⟩) hur (R ++ treeD g (plansG g) (f + 1) (l.take i) ++ [(ri : Int)]) (W ++ wordD g (plansG g) (f + 1) (l.take i)) _
          (by simp only [List.length_append, List.length_cons, List.length_nil]; omega) (by simp only [List.length_append]; omega) ⟨u1, uw, by simpa using o2⟩
        simp only [encW, encI] at hcall
        refine CallG.loud (hcall.mono ?_)
        rintro v H2 ⟨ur2, uw2, o3⟩
        simp (disch := omega) only [↓wr, ↓reduceIte, wq, eq_self, ne_eq, implies_true, oneV, intOp, goI, splice, sBuild, fillE, nilB, isNil, Nat.reduceEqDiff, Nat.reduceAdd, Nat.reduceLT, Nat.reduceLeDiff, Int.reduceNeg, Int.reduceToNat, reduceCtorEq, decide_true, decide_false, t0, t7, t8, t9]
        refine up_next hk (by omega) ⟨⟨ur2, uw2, ?_⟩, t0, t7, t8, rfl⟩
        rw [htk, treeD_app, wordD_app, treeD_non (by omega), wordD_non (by omega), hpx, hi, ← hi, hra, hi]
        simpa using o3
    · rw [List.take_of_length_le (by omega)] at ho
      simp (disch := omega) only [↓wr, ↓reduceIte, wq, eq_self, ne_eq, implies_true, oneV, intOp, goI, splice, sBuild, fillE, nilB, isNil, Nat.reduceEqDiff, Nat.reduceAdd, Nat.reduceLT, Nat.reduceLeDiff, Int.reduceNeg, Int.reduceToNat, reduceCtorEq, decide_true, decide_false, t0, t7, t8, t9]
      exact ⟨ur, uw, ho⟩

/-- Symbols in a tree; one nonterminal in a list. -/
def HasI (H : View) (u : V) (l : List Int) : Prop := u = encI l ∨ ∃ (m : Nat) (x : Int), l = [x] ∧ x < 0 ∧ u = .sl m 0 1 1 ∧ H m = .arr 1 [[gi x]]
theorem HasI.lent {H : View} {u : V} {l : List Int} (h : HasI H u l) : Lent H u (encI l) := by
  rcases h with rfl | ⟨m, x, rfl, _, rfl, hm⟩
  · exact Lent.tree (encI_tree l)
  · exact lent_intsL (l := [x]) hm rfl
theorem HasI.keep {H H' : View} {u : V} {l : List Int} (h : HasI H u l) (hk : ∀ id, H id ≠ .dead → H' id = H id) : HasI H' u l := by
  rcases h with rfl | ⟨m, x, rfl, hx, rfl, hm⟩
  · exact .inl rfl
  · exact .inr ⟨m, x, rfl, hx, rfl, by rw [hk m (by rw [hm]; simp)]; exact hm⟩

set_option maxHeartbeats 4000000 in
theorem mo_write_any (g : Gram) (hg : g.Ok) (hf : g.Fine) (b : Nat) (f : Nat) (l : List Int) (hl : Short l) (hn : ∀ x ∈ l, In64 x ∧ (x < 0 → -1 - x < g.nons.length)) (hu : UpP (plansG g) f l) (R W : List Int) (H : View) (hbR : (R ++ treeD g (plansG g) f l).length ≤ 100000) (hbW : (W ++ wordD g (plansG g) f l).length ≤ 100000)
    (hw : Wrt g b R W H) (u : V) (hi : HasI H u l) : MCall Tryz.prog 91 [.ptr b 0 0, u] H fun _ H' => Wrt g b (R ++ treeD g (plansG g) f l) (W ++ wordD g (plansG g) f l) H' := by
  rcases hi with rfl | ⟨m, x, rfl, hx0, rfl, hm⟩
  · exact mo_write g hg hf b f l hl hn hu R W H hbR hbW hw
  · obtain ⟨⟨hx1, hx2⟩, hx3⟩ := hn x (by simp)
    refine MCall.of mixed S_least_writer_write_ok ?_
    simp (disch := omega) only [↓wr, ↓reduceIte, wq, eq_self, ne_eq, implies_true, oneV, intOp, goI, splice, sBuild, fillE, nilB, isNil, Nat.reduceEqDiff, Nat.reduceAdd, Nat.reduceLT, Nat.reduceLeDiff, Int.reduceNeg, Int.reduceToNat, reduceCtorEq, decide_true, decide_false, S_least_writer_write]
    refine LoopG.up 1 (fun i T H' => ((i = 0 ∧ H' = H) ∨ (i = 1 ∧ Wrt g b (R ++ treeD g (plansG g) f [x]) (W ++ wordD g (plansG g) f [x]) H')) ∧ T 0 = .ptr b 0 0 ∧ T 7 = .sl m 0 1 1 ∧ T 8 = gi 1 ∧ T 9 = gi i) ⟨.inl ⟨rfl, rfl⟩, rfl, rfl, rfl, rfl⟩ ?_
    rintro i k T H1 hk ⟨h7, t0, t7, t8, t9⟩
    rcases h7 with ⟨rfl, rfl⟩ | ⟨rfl, ho⟩
    · obtain ⟨ur, uw, ho⟩ := hw
      have hb := ho.is 0 rfl (by simp)
      simp (disch := omega) only [↓wr, ↓reduceIte, wq, eq_self, ne_eq, implies_true, oneV, intOp, goI, splice, sBuild, fillE, nilB, isNil, Nat.reduceEqDiff, Nat.reduceAdd, Nat.reduceLT, Nat.reduceLeDiff, Int.reduceNeg, Int.reduceToNat, reduceCtorEq, decide_true, decide_false, B_least_writer_write_0, t0, t7, t8, t9, hm]
      refine GoB.dec (fun _ => ?_) (fun hc => absurd hc (by decide))
      simp (disch := omega) only [↓wr, ↓reduceIte, wq, eq_self, ne_eq, implies_true, oneV, intOp, goI, splice, sBuild, fillE, nilB, isNil, Nat.reduceEqDiff, Nat.reduceAdd, Nat.reduceLT, Nat.reduceLeDiff, Int.reduceNeg, Int.reduceToNat, reduceCtorEq, decide_true, decide_false, t0, t7, t8, t9, hm]
      refine GoB.dec (fun hc => absurd hc (by omega)) (fun _ => ?_)
      obtain ⟨f, rfl⟩ : ∃ f', f = f' + 1 := by
        cases f with
        | zero => have := up_zero hu x (by simp); omega
        | succ f => exact ⟨f, rfl⟩
      obtain ⟨hkn, hh⟩ := hu x (by simp) (by omega)
      obtain ⟨ri, r, hi, hr, hra, hur, _⟩ := up_child (f := f) hkn (by push_cast at hh; exact hh)
      have hgp := encPs_get (P := plansG g) (m := nonN x) (by rw [plans_len]; have := hx3 (by omega); unfold nonN; omega)
      have hmr := List.mem_of_getElem? hr
      have hrl : ri < g.rules.length := (List.getElem?_eq_some_iff.1 hr).1
      have hrw := hg.rule r hmr
      rw [treeD_non (by omega), hra, hi] at hbR ⊢
      rw [wordD_non (by omega), hra] at hbW ⊢
      simp only [List.length_append, List.length_cons] at hbR hbW
      generalize hpx : pAt (plansG g) (nonN x) = p at hgp hi hra
      simp (disch := omega) only [↓wr, ↓reduceIte, wq, eq_self, ne_eq, implies_true, oneV, intOp, goI, splice, sBuild, fillE, nilB, isNil, Nat.reduceEqDiff, Nat.reduceAdd, Nat.reduceLT, Nat.reduceLeDiff, Int.reduceNeg, Int.reduceToNat, reduceCtorEq, decide_true, decide_false, t0, t7, t8, t9, hb, encW]
      simp (disch := omega) only [↓wr, ↓reduceIte, wq, eq_self, ne_eq, implies_true, oneV, intOp, goI, splice, sBuild, fillE, nilB, isNil, Nat.reduceEqDiff, Nat.reduceAdd, Nat.reduceLT, Nat.reduceLeDiff, Int.reduceNeg, Int.reduceToNat, reduceCtorEq, decide_true, decide_false, t0, t7, t8, t9, hb, encW, hgp, encPl, hi]
      intro n hn1
      rw [elemsOf_new]
      simp (disch := omega) only [↓wr, ↓reduceIte, wq, eq_self, ne_eq, implies_true, oneV, intOp, goI, splice, sBuild, fillE, nilB, isNil, Nat.reduceEqDiff, Nat.reduceAdd, Nat.reduceLT, Nat.reduceLeDiff, Int.reduceNeg, Int.reduceToNat, reduceCtorEq, decide_true, decide_false, t0, t7, t8, t9]
      refine goApp_owns ((ho.at 1 (by simp)).fresh hn1) (by simp [cellOk]) (by unfold limit; simp; omega) (by unfold limit; simp; omega) ?_
      intro u1 H1 o1 _
      simp only [List.eraseIdx_cons_succ, List.eraseIdx_cons_zero] at o1
      have hb1 := o1.is 1 rfl (by simp)
      have c1 := o1.head.cells
      have k1 := o1.head.cok
      simp (disch := omega) only [↓wr, ↓reduceIte, wq, eq_self, ne_eq, implies_true, oneV, intOp, goI, splice, sBuild, fillE, nilB, isNil, Nat.reduceEqDiff, Nat.reduceAdd, Nat.reduceLT, Nat.reduceLeDiff, Int.reduceNeg, Int.reduceToNat, reduceCtorEq, decide_true, decide_false, t0, t7, t8, t9, hb1, encW, c1, k1, encR, List.getElem?_map, hr, encI]
      have o2 := (o1.at 1 (by simp)).put (es' := [encW g u1 uw]) rfl rfl
      simp only [List.eraseIdx_cons_succ, List.eraseIdx_cons_zero] at o2
      have hcall := mo_write g hg hf b f r.right hrw.2.2.1 (fun y hy => ⟨hrw.2.2.2 y hy, fun hn => hf.neg hmr hy hn⟩) hur (R ++ [(ri : Int)]) W _
        (by simp only [List.length_append, List.length_cons, List.length_nil]; omega) (by simp only [List.length_append]; omega) ⟨u1, uw, by simpa using o2⟩
      simp only [encW, encI] at hcall
      refine CallG.loud (hcall.mono ?_)
      rintro v H2 ⟨ur2, uw2, o3⟩
      simp (disch := omega) only [↓wr, ↓reduceIte, wq, eq_self, ne_eq, implies_true, oneV, intOp, goI, splice, sBuild, fillE, nilB, isNil, Nat.reduceEqDiff, Nat.reduceAdd, Nat.reduceLT, Nat.reduceLeDiff, Int.reduceNeg, Int.reduceToNat, reduceCtorEq, decide_true, decide_false, t0, t7, t8, t9]
      exact ⟨0, by omega, 1, by omega, .inr ⟨rfl, ur2, uw2, by simpa using o3⟩, t0, t7, t8, rfl⟩
    · simp (disch := omega) only [↓wr, ↓reduceIte, wq, eq_self, ne_eq, implies_true, oneV, intOp, goI, splice, sBuild, fillE, nilB, isNil, Nat.reduceEqDiff, Nat.reduceAdd, Nat.reduceLT, Nat.reduceLeDiff, Int.reduceNeg, Int.reduceToNat, reduceCtorEq, decide_true, decide_false, B_least_writer_write_0, t0, t7, t8, t9]
      refine GoB.dec (fun hc => absurd hc (by decide)) (fun _ => ?_)
      simp (disch := omega) only [↓wr, ↓reduceIte, wq, eq_self, ne_eq, implies_true, oneV, intOp, goI, splice, sBuild, fillE, nilB, isNil, Nat.reduceEqDiff, Nat.reduceAdd, Nat.reduceLT, Nat.reduceLeDiff, Int.reduceNeg, Int.reduceToNat, reduceCtorEq, decide_true, decide_false, t0, t7, t8, t9]
      exact ho
end Gv
