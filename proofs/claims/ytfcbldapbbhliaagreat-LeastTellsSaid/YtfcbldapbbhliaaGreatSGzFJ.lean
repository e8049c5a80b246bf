/-
  Part 10 of the proof: what the machine does and what the functions answer.
  Conditions: those that each lemma names.
-/
import Derived.Test.YtfcbldapbbhliaaGreatSGzFI
set_option linter.unusedSimpArgs false
set_option linter.unusedVariables false

/-
  Heights and least rules: what the document's functions answer.
  Conditions: lists that are no longer than an int says, numbers that are ints.
-/
set_option linter.unusedSimpArgs false
set_option maxRecDepth 100000
namespace Gv
open Go Go.Proofs

def B_gerundref14_high_0 : SC :=
  .seq (.seq (.region false [⟨none, [((some 8), .op (.mov (.tmp 6))), ((some 9), .op (.addr 1 (.tmp 2))), ((some 10), .op (.load none (.tmp 9))), ((some 11), .op (.len (.tmp 10))), ((some 12), .op (.arith .lss (.tmp 8) (.tmp 11)))]⟩]) <|
  .cond (.tmp 12) (.skip) (.exit 0)) <|
  .seq (.block 1 (.seq (.seq (.region false [⟨none, [((some 15), .op (.addr 1 (.tmp 2))), ((some 16), .op (.load none (.tmp 15))), ((some 17), .op (.mov (.tmp 6))), ((some 18), .op (.idx 1 (.tmp 16) (.tmp 17))), ((some 19), .op (.load none (.tmp 18))), ((some 20), .op (.arith .geq (.tmp 19) (.val (.val (.int .i64 0)))))]⟩]) <|
  .cond (.tmp 20) (.exit 1) (.skip)) <|
  .seq (.region false [⟨none, [((some 21), .op (.mov (.tmp 1))), ((some 22), .op (.addr 1 (.tmp 2))), ((some 23), .op (.load none (.tmp 22))), ((some 24), .op (.mov (.tmp 6))), ((some 25), .op (.idx 1 (.tmp 23) (.tmp 24))), ((some 26), .op (.load none (.tmp 25))), ((some 27), .op (.arith .sub (.val (.val (.int .i64 (-1)))) (.tmp 26))), ((some 28), .op (.idx 1 (.tmp 21) (.tmp 27))), ((some 29), .op (.load none (.tmp 28))), ((some 7), .op (.mov (.tmp 29)))]⟩]) <|
  .seq (.seq (.region false [⟨none, [((some 30), .op (.mov (.tmp 7))), ((some 31), .op (.arith .eql (.tmp 30) (.val (.val (.int .i64 0)))))]⟩]) <|
  .cond (.tmp 31) (.seq (.region false [⟨none, [((some 4), .op (.mov (.val (.val (.int .i64 0)))))]⟩]) <|
  .ret) (.skip)) <|
  .region false [⟨none, [((some 32), .op (.mov (.tmp 5))), ((some 33), .op (.mov (.tmp 7))), ((some 34), .op (.mm true (.tmp 32) (.tmp 33))), ((some 5), .op (.mov (.tmp 34)))]⟩])) <|
  .region false [⟨none, [((some 13), .op (.mov (.tmp 6))), ((some 14), .op (.arith .add (.tmp 13) (.val (.val (.int .i64 1))))), ((some 6), .op (.mov (.tmp 14)))]⟩]
def S_gerundref14_high : SF := ⟨.seq (.region false [⟨none, [((some 2), .op (.frz (.tmp 0))), ((some 4), .op (.mov (.val (.val (.int .i64 0)))))]⟩]) <|
  .seq (.region false [⟨none, [((some 5), .op (.mov (.val (.val (.int .i64 0)))))]⟩]) <|
  .seq (.seq (.region false [⟨none, [((some 6), .op (.mov (.val (.val (.int .i64 0)))))]⟩]) <|
  .block 0 (.loop B_gerundref14_high_0)) <|
  .seq (.region false [⟨none, [((some 35), .op (.mov (.tmp 5))), ((some 36), .op (.arith .add (.tmp 35) (.val (.val (.int .i64 1))))), ((some 4), .op (.mov (.tmp 36)))]⟩]) <|
  .ret,
  [.tmp 4], 37⟩
theorem S_gerundref14_high_ok : compF Tryz.prog 58 [2] = some S_gerundref14_high := by kernel_rfl

def B_gerundref14_Heights_0 : SC :=
  .seq (.seq (.region false [⟨none, [((some 25), .op (.mov (.tmp 6))), ((some 26), .op (.addr 2 (.tmp 1))), ((some 27), .op (.load none (.tmp 26))), ((some 28), .op (.len (.tmp 27))), ((some 29), .op (.arith .lss (.tmp 25) (.tmp 28)))]⟩]) <|
  .cond (.tmp 29) (.skip) (.exit 2)) <|
  .seq (.block 3 (.seq (.region false [⟨none, [((some 32), .op (.addr 2 (.tmp 1))), ((some 33), .op (.load none (.tmp 32))), ((some 34), .op (.mov (.tmp 6))), ((some 35), .op (.idx 3 (.tmp 33) (.tmp 34))), ((some 36), .op (.load (some 3) (.tmp 35))), ((some 7), .op (.alloc [(.val (.int .i64 0)), (.emp 1), (.val (.int .i64 0))])), (none, .op (.store 3 (.tmp 7) (.tmp 36)))]⟩]) <|
  .seq (.region false [⟨none, [((some 37), .op (.mov (.tmp 3))), ((some 38), .op (.addr 0 (.tmp 7))), ((some 39), .op (.load none (.tmp 38))), ((some 40), .op (.idx 1 (.tmp 37) (.tmp 39))), ((some 41), .op (.load none (.tmp 40))), ((some 42), .op (.arith .eql (.tmp 41) (.val (.val (.int .i64 0))))), ((some 43), .op (.mov (.tmp 42)))]⟩, ⟨(some (43, true)), [((some 44), .op (.load (some 3) (.tmp 7))), ((some 45), .op (.mov (.tmp 5))), ((some 46), .call (.val (.fn 58 [] [])) [(.tmp 44), (.tmp 45)]), ((some 47), .op (.mov (.tmp 4))), ((some 48), .op (.arith .eql (.tmp 46) (.tmp 47)))]⟩, ⟨none, [((some 49), .op (.pick (.tmp 43) (.tmp 48) (.val (.val (.bool false)))))]⟩]) <|
  .cond (.tmp 49) (.region false [⟨none, [((some 50), .op (.mov (.tmp 3))), ((some 51), .op (.addr 0 (.tmp 7))), ((some 52), .op (.load none (.tmp 51))), ((some 53), .op (.mov (.tmp 4))), ((some 54), .op (.idx 1 (.tmp 50) (.tmp 52))), (none, .op (.store 1 (.tmp 54) (.tmp 53)))]⟩]) (.skip))) <|
  .region false [⟨none, [((some 30), .op (.mov (.tmp 6))), ((some 31), .op (.arith .add (.tmp 30) (.val (.val (.int .i64 1))))), ((some 6), .op (.mov (.tmp 31)))]⟩]
def B_gerundref14_Heights_1 : SC :=
  .seq (.seq (.region false [⟨none, [((some 15), .op (.mov (.tmp 4))), ((some 16), .op (.addr 1 (.tmp 1))), ((some 17), .op (.load none (.tmp 16))), ((some 18), .op (.len (.tmp 17))), ((some 19), .op (.arith .leq (.tmp 15) (.tmp 18)))]⟩]) <|
  .cond (.tmp 19) (.skip) (.exit 0)) <|
  .seq (.block 1 (.seq (.region false [⟨none, [((some 22), .op (.mov (.val (.emp 2)))), ((some 23), .op (.mov (.tmp 3))), ((some 24), .op (.app 1 8 (.tmp 22) (.tmp 23))), ((some 5), .op (.mov (.tmp 24)))]⟩]) <|
  .seq (.region false [⟨none, [((some 6), .op (.mov (.val (.val (.int .i64 0)))))]⟩]) <|
  .block 2 (.loop B_gerundref14_Heights_0))) <|
  .region false [⟨none, [((some 20), .op (.mov (.tmp 4))), ((some 21), .op (.arith .add (.tmp 20) (.val (.val (.int .i64 1))))), ((some 4), .op (.mov (.tmp 21)))]⟩]
def S_gerundref14_Heights : SF := ⟨.seq (.region false [⟨none, [((some 1), .op (.frz (.tmp 0))), ((some 2), .op (.mov (.val (.emp 1))))]⟩]) <|
  .seq (.seq (.region false [⟨none, [((some 8), .op (.load (some 4) (.tmp 1))), ((some 9), .call (.val (.fn 28 [] [])) [(.tmp 8)]), ((some 10), .op (.not (.tmp 9)))]⟩]) <|
  .cond (.tmp 10) (.seq (.region false [⟨none, [((some 2), .op (.mov (.val (.emp 1))))]⟩]) <|
  .ret) (.skip)) <|
  .seq (.region false [⟨none, [((some 11), .op (.addr 1 (.tmp 1))), ((some 12), .op (.load none (.tmp 11))), ((some 13), .op (.len (.tmp 12))), ((some 14), .op (.make 1 8 [(.val (.int .i64 0))] (.tmp 13) (.tmp 13))), ((some 3), .op (.mov (.tmp 14)))]⟩]) <|
  .seq (.seq (.region false [⟨none, [((some 4), .op (.mov (.val (.val (.int .i64 1)))))]⟩]) <|
  .block 0 (.loop B_gerundref14_Heights_1)) <|
  .seq (.region false [⟨none, [((some 55), .op (.mov (.tmp 3))), ((some 2), .op (.mov (.tmp 55)))]⟩]) <|
  .ret,
  [.tmp 2], 56⟩
theorem S_gerundref14_Heights_ok : compF Tryz.prog 33 [1] = some S_gerundref14_Heights := by kernel_rfl

theorem hAt_get {h : List Int} {m : Nat} (hm : m < h.length) : h[m]? = some (hAt h m) := by simp [hAt, List.getD_eq_getElem?_getD, hm]
theorem lent_intsL {H : View} {id n : Nat} {l : List Int} (hv : H id = .arr 1 (intsE l)) (hn : n = l.length) : Lent H (.sl id 0 n 1) (encI l) := by
  subst hn
  exact Lent.own (sz := 1) (.inr ⟨id, by simp, hv⟩) fun e he v hv => by
    obtain ⟨x, _, rfl⟩ := List.mem_map.1 he
    simp at hv; subst hv; exact .val _
theorem intsE_set (l : List Int) (i : Nat) (x : Int) : (intsE l).set i [gi x] = intsE (l.set i x) := by simp [List.map_set]
theorem intsE_get {h : List Int} {m : Nat} (hm : m < h.length) : (intsE h).getD m [] = [gi (hAt h m)] := by simp [hAt, List.getD_eq_getElem?_getD, hm]

def HsOk (h : List Int) : Prop := ∀ m, 0 ≤ hAt h m ∧ hAt h m ≤ 1000
theorem hs_stage {g : Gram} (hr : g.rules.length ≤ 40) {k : Nat} (hk : k ≤ 16) : HsOk (hgts (stageP g k)) := fun m => by
  rw [hAt_map]
  by_cases h : Known (stageP g k) m
  · obtain ⟨a, b, _⟩ := stage_height g k m h
    omega
  · rw [stage_un h]; unfold noP; decide

set_option maxHeartbeats 2000000 in
theorem pc_high14 (r : Rule) (h : List Int) (hh : HsOk h) (hl : RuleIn h.length r) : PCall Tryz.prog 58 [.agg (encR r), encI h] (gi (highD h r.right 0)) := by
  obtain ⟨_, _, _, hl6, hs⟩ := hl
  refine PCall.val (by
    intro v hv; simp at hv
    rcases hv with rfl | rfl
    · exact tree_agg _ (encR_tree r)
    · exact encI_tree h) fun H => ?_
  refine MCall.of mixed S_gerundref14_high_ok ?_
  simp (disch := omega) only [↓wr, ↓reduceIte, wq, eq_self, ne_eq, implies_true, oneV, intOp, goI, splice, sBuild, fillE, nilB, isNil, Nat.reduceEqDiff, Nat.reduceAdd, Nat.reduceLT, Nat.reduceLeDiff, Int.reduceNeg, Int.reduceToNat, reduceCtorEq, decide_true, decide_false, S_gerundref14_high, encR, encI]
  refine LoopG.up r.right.length (fun i T H' => ∃ top : Int, 0 ≤ top ∧ top ≤ 1000 ∧ highD h (r.right.drop i) top = highD h r.right 0 ∧ T 1 = encI h ∧ T 2 = .fptr (encR r) 0 ∧ T 5 = gi top ∧ T 6 = gi i) ⟨0, by omega, by omega, rfl, rfl, rfl, rfl, rfl⟩ ?_
  rintro i k T H hk ⟨top, h0, h1, hd, t1, t2, t5, t6⟩
  simp (disch := omega) only [↓wr, ↓reduceIte, wq, eq_self, ne_eq, implies_true, oneV, intOp, goI, splice, sBuild, fillE, nilB, isNil, Nat.reduceEqDiff, Nat.reduceAdd, Nat.reduceLT, Nat.reduceLeDiff, Int.reduceNeg, Int.reduceToNat, reduceCtorEq, decide_true, decide_false, B_gerundref14_high_0, t1, t2, t5, t6, encR, encI]
  refine GoB.dec (fun hc => ?_) (fun hc => ?_)
  · have hg : r.right[i]? = some (r.right[i]'(by omega)) := List.getElem?_eq_getElem (by omega)
    have hmem : r.right[i]'(by omega) ∈ r.right := List.getElem_mem _
    rw [drop_at (show i < r.right.length by omega)] at hd
    generalize r.right[i]'(by omega) = x at hg hmem hd
    obtain ⟨⟨hx1, hx2⟩, hx3⟩ := hs x hmem
    simp (disch := omega) only [↓wr, ↓reduceIte, wq, eq_self, ne_eq, implies_true, oneV, intOp, goI, splice, sBuild, fillE, nilB, isNil, Nat.reduceEqDiff, Nat.reduceAdd, Nat.reduceLT, Nat.reduceLeDiff, Int.reduceNeg, Int.reduceToNat, reduceCtorEq, decide_true, decide_false, t1, t2, t5, t6, encR, encI, List.getElem?_map, hg]
    refine GoB.dec (fun hx => ?_) (fun hx => ?_)
    · simp (disch := omega) only [↓wr, ↓reduceIte, wq, eq_self, ne_eq, implies_true, oneV, intOp, goI, splice, sBuild, fillE, nilB, isNil, Nat.reduceEqDiff, Nat.reduceAdd, Nat.reduceLT, Nat.reduceLeDiff, Int.reduceNeg, Int.reduceToNat, reduceCtorEq, decide_true, decide_false, t1, t2, t5, t6, encR, encI]
      rw [highD, if_pos (show 0 ≤ x from hx)] at hd
      exact up_next hk (by omega) ⟨top, h0, h1, hd, t1, t2, t5, rfl⟩
    · have hm : nonN x < h.length := by have := hx3 (by omega); unfold nonN; omega
      have hgm := hAt_get hm
      have hb := hh (nonN x)
      rw [highD, if_neg hx] at hd
      generalize hAt h (nonN x) = v at hgm hb hd
      simp (disch := omega) only [↓wr, ↓reduceIte, wq, eq_self, ne_eq, implies_true, oneV, intOp, goI, splice, sBuild, fillE, nilB, isNil, Nat.reduceEqDiff, Nat.reduceAdd, Nat.reduceLT, Nat.reduceLeDiff, Int.reduceNeg, Int.reduceToNat, reduceCtorEq, decide_true, decide_false, t1, t2, t5, t6, encR, encI, List.getElem?_map, hg, hgm]
      refine GoB.eq (fun hv => ?_) (fun hv => ?_)
      · simp (disch := omega) only [↓wr, ↓reduceIte, wq, eq_self, ne_eq, implies_true, oneV, intOp, goI, splice, sBuild, fillE, nilB, isNil, Nat.reduceEqDiff, Nat.reduceAdd, Nat.reduceLT, Nat.reduceLeDiff, Int.reduceNeg, Int.reduceToNat, reduceCtorEq, decide_true, decide_false, t1, t2, t5, t6]
        rw [if_pos hv] at hd
        rw [← hd]
      · simp (disch := omega) only [↓wr, ↓reduceIte, wq, eq_self, ne_eq, implies_true, oneV, intOp, goI, splice, sBuild, fillE, nilB, isNil, Nat.reduceEqDiff, Nat.reduceAdd, Nat.reduceLT, Nat.reduceLeDiff, Int.reduceNeg, Int.reduceToNat, reduceCtorEq, decide_true, decide_false, t1, t2, t5, t6, max_mm]
        rw [if_neg hv] at hd
        exact up_next hk (by omega) ⟨_, by omega, by omega, hd, t1, t2, rfl, rfl⟩
  · simp (disch := omega) only [↓wr, ↓reduceIte, wq, eq_self, ne_eq, implies_true, oneV, intOp, goI, splice, sBuild, fillE, nilB, isNil, Nat.reduceEqDiff, Nat.reduceAdd, Nat.reduceLT, Nat.reduceLeDiff, Int.reduceNeg, Int.reduceToNat, reduceCtorEq, decide_true, decide_false, t1, t2, t5, t6]
    rw [List.drop_eq_nil_of_le (by omega), highD] at hd
    rw [hd]

/-- What holds within a round of heights. -/
def HgtI (g : Gram) (old : List Int) (k : Int) (b d i : Nat) (T : Env) (H : View) : Prop :=
  ∃ out : List Int, out.length = g.nons.length ∧ (g.rules.drop i).foldl (stepHt old k) out = g.rules.foldl (stepHt old k) old ∧ b ≠ d ∧ H b = .arr 1 (intsE out) ∧ H d = .arr 1 (intsE old) ∧
    T 1 = .fptr (encG g) 0 ∧ T 3 = .sl b 0 g.nons.length 1 ∧ T 4 = gi k ∧ T 5 = .sl d 0 g.nons.length 1 ∧ T 6 = gi i

set_option maxHeartbeats 4000000 in
theorem pn_Heights14 (g : Gram) (hg : g.Ok) : PNew Tryz.prog 33 [.agg (encG g)] (encI (if right09 g = true then hgts (plansG g) else [])) := by
  refine PNew.of (gg_tree g) ?_
  refine MCall.of mixed S_gerundref14_Heights_ok ?_
  have hn := hg.nons
  unfold Short at hn
  simp (disch := omega) only [↓wr, ↓reduceIte, wq, eq_self, ne_eq, implies_true, oneV, intOp, goI, splice, sBuild, fillE, nilB, isNil, Nat.reduceEqDiff, Nat.reduceAdd, Nat.reduceLT, Nat.reduceLeDiff, Int.reduceNeg, Int.reduceToNat, reduceCtorEq, decide_true, decide_false, S_gerundref14_Heights, encG, encS]
  refine CallG.pure (pc_Right09 g hg) (by kernel_rfl) ?_
  repeat' (first | (refine GoB.dec (fun _ => ?_) (fun _ => ?_)) | (refine GoB.eq (fun _ => ?_) (fun _ => ?_)) | (refine GoB.ne (fun _ => ?_) (fun _ => ?_)) | (refine GoB.split (fun _ => ?_) (fun _ => ?_)) | (simp (disch := omega) only [↓wr, ↓reduceIte, wq, eq_self, ne_eq, implies_true, oneV, intOp, goI, splice, sBuild, fillE, nilB, isNil, Nat.reduceEqDiff, Nat.reduceAdd, Nat.reduceLT, Nat.reduceLeDiff, Int.reduceNeg, Int.reduceToNat, reduceCtorEq, decide_true, decide_false, encG, encS]))
  · rename_i hr
    have hf := right09_fine hr
    have z1 := hf.nons1
    have z2 := hf.nons
    have z3 := hf.rules
    rw [if_pos hr]
    try simp (disch := omega) only [↓wr, ↓reduceIte, wq, eq_self, ne_eq, implies_true, oneV, intOp, goI, splice, sBuild, fillE, nilB, isNil, Nat.reduceEqDiff, Nat.reduceAdd, Nat.reduceLT, Nat.reduceLeDiff, Int.reduceNeg, Int.reduceToNat, reduceCtorEq, decide_true, decide_false, encG, encS]
    refine ⟨⟨by omega, by unfold limit; omega, by unfold limit; omega⟩, fun h => by omega, ?_⟩
    intro _ b
    try simp (disch := omega) only [↓wr, ↓reduceIte, wq, eq_self, ne_eq, implies_true, oneV, intOp, goI, splice, sBuild, fillE, nilB, isNil, Nat.reduceEqDiff, Nat.reduceAdd, Nat.reduceLT, Nat.reduceLeDiff, Int.reduceNeg, Int.reduceToNat, reduceCtorEq, decide_true, decide_false, encG, encS]
    refine LoopG.up g.nons.length (fun j T H' => H' b = .arr 1 (intsE (hgts (stageP g j))) ∧ T 1 = .fptr (encG g) 0 ∧ T 3 = .sl b 0 g.nons.length 1 ∧ T 4 = gi ((j : Int) + 1)) ?_ ?_
    · refine ⟨?_, rfl, rfl, rfl⟩
      simp [View.set, stageP, iter, noP]
    rintro j k T H hk ⟨hb, t1, t3, t4⟩
    simp (disch := omega) only [↓wr, ↓reduceIte, wq, eq_self, ne_eq, implies_true, oneV, intOp, goI, splice, sBuild, fillE, nilB, isNil, Nat.reduceEqDiff, Nat.reduceAdd, Nat.reduceLT, Nat.reduceLeDiff, Int.reduceNeg, Int.reduceToNat, reduceCtorEq, decide_true, decide_false, B_gerundref14_Heights_1, t1, t3, t4, encG, encS]
    refine GoB.dec (fun hc => ?_) (fun hc => ?_)
    · have hlen := stage_len g j
      obtain ⟨nl, hnl⟩ : ∃ nl, g.nons.length = nl + 1 := ⟨g.nons.length - 1, by omega⟩
      have he : elemsOf H (.sl b 0 g.nons.length 1) = some (intsE (hgts (stageP g j)), [b]) := by
        rw [hnl, elemsOf_sl _ b 0 nl 1 1 _ hb (by simp [hlen, hnl]), List.drop_zero, List.take_of_length_le (by simp [hlen, hnl])]
      have hne : (intsE (hgts (stageP g j))).isEmpty = false := by
        cases hx : stageP g j with
        | nil => rw [hx] at hlen; simp at hlen; omega
        | cons => rfl
      simp (disch := omega) only [↓wr, ↓reduceIte, wq, eq_self, ne_eq, implies_true, oneV, intOp, goI, splice, sBuild, fillE, nilB, isNil, Nat.reduceEqDiff, Nat.reduceAdd, Nat.reduceLT, Nat.reduceLeDiff, Int.reduceNeg, Int.reduceToNat, reduceCtorEq, decide_true, decide_false, t1, t3, t4, he, goApp_emp _ _ _ _ _ _ _ hne, hlen]
      refine ⟨by simp [List.all_map, cellOk], ⟨by unfold limit; omega, by unfold limit; omega⟩, fun d hd => ?_⟩
      have hbd : b ≠ d := by rintro rfl; rw [hb] at hd; simp at hd
      refine LoopG.up g.rules.length (HgtI g (hgts (stageP g j)) ((j : Int) + 1) b d) ⟨hgts (stageP g j), by simp [hlen], rfl, hbd, by simp [View.set, hbd, hb], by simp [View.set], t1, t3, t4, rfl, rfl⟩ ?_
      clear t1 t3 t4 hb he hd
      rintro i q T H hq ⟨out, hol, hfold, _, hb, hd, t1, t3, t4, t5, t6⟩
      simp (disch := omega) only [↓wr, ↓reduceIte, wq, eq_self, ne_eq, implies_true, oneV, intOp, goI, splice, sBuild, fillE, nilB, isNil, Nat.reduceEqDiff, Nat.reduceAdd, Nat.reduceLT, Nat.reduceLeDiff, Int.reduceNeg, Int.reduceToNat, reduceCtorEq, decide_true, decide_false, B_gerundref14_Heights_0, t1, t3, t4, t5, t6, encG]
      refine GoB.dec (fun hc2 => ?_) (fun hc2 => ?_)
      · have hg2 : g.rules[i]? = some (g.rules[i]'(by omega)) := List.getElem?_eq_getElem (by omega)
        have hmem : g.rules[i]'(by omega) ∈ g.rules := List.getElem_mem _
        rw [drop_at (show i < g.rules.length by omega), List.foldl_cons] at hfold
        generalize g.rules[i]'(by omega) = r at hg2 hmem hfold
        have hri := hf.ruleIn hg hmem
        have hl := hf.left r hmem
        have hgo := intsE_get (h := out) (m := r.left.toNat) (by omega)
        have hso := hs_stage (g := g) z3 (show j ≤ 16 by omega)
        have hhl : (hgts (stageP g j)).length = g.nons.length := by simp [hlen]
        unfold stepHt at hfold
        generalize hgts (stageP g j) = old at hd hso hhl hfold ⊢
        simp (disch := omega) only [↓wr, ↓reduceIte, wq, eq_self, ne_eq, implies_true, oneV, intOp, goI, splice, sBuild, fillE, nilB, isNil, Nat.reduceEqDiff, Nat.reduceAdd, Nat.reduceLT, Nat.reduceLeDiff, Int.reduceNeg, Int.reduceToNat, reduceCtorEq, decide_true, decide_false, t1, t3, t4, t5, t6, encG, encR, encI, List.getElem?_map, hg2]
        intro n hn
        have hnb : b ≠ n := by rintro rfl; rw [hb] at hn; simp at hn
        have hnd : d ≠ n := by rintro rfl; rw [hd] at hn; simp at hn
        try simp (disch := omega) only [↓wr, ↓reduceIte, wq, eq_self, ne_eq, implies_true, oneV, intOp, goI, splice, sBuild, fillE, nilB, isNil, Nat.reduceEqDiff, Nat.reduceAdd, Nat.reduceLT, Nat.reduceLeDiff, Int.reduceNeg, Int.reduceToNat, reduceCtorEq, decide_true, decide_false, t1, t3, t4, t5, t6, encG, encR, encI, hb, hnb, hnb.symm, hgo]
        refine ⟨by omega, by omega, ?_⟩
        refine GoB.eq (fun hz => ?_) (fun hz => ?_)
        · simp (disch := omega) only [↓wr, ↓reduceIte, wq, eq_self, ne_eq, implies_true, oneV, intOp, goI, splice, sBuild, fillE, nilB, isNil, Nat.reduceEqDiff, Nat.reduceAdd, Nat.reduceLT, Nat.reduceLeDiff, Int.reduceNeg, Int.reduceToNat, reduceCtorEq, decide_true, decide_false, t1, t3, t4, t5, t6, encG, encR, encI, hb, hnb, hnb.symm, hgo]
          refine CallG.lend (pc_high14 r old hso (by rw [hhl]; exact hri)) (by kernel_rfl) (.val _) ⟨Lent.tree (tree_agg _ (encR_tree r)), lent_intsL (l := old) (by simp [View.set, hnd, hd]) hhl.symm, trivial⟩ ?_
          simp (disch := omega) only [↓wr, ↓reduceIte, wq, eq_self, ne_eq, implies_true, oneV, intOp, goI, splice, sBuild, fillE, nilB, isNil, Nat.reduceEqDiff, Nat.reduceAdd, Nat.reduceLT, Nat.reduceLeDiff, Int.reduceNeg, Int.reduceToNat, reduceCtorEq, decide_true, decide_false, t1, t3, t4, t5, t6, encG, encR, encI, hb, hnb, hnb.symm, hgo]
          refine GoB.eq (fun hh => ?_) (fun hh => ?_)
          · simp (disch := omega) only [↓wr, ↓reduceIte, wq, eq_self, ne_eq, implies_true, oneV, intOp, goI, splice, sBuild, fillE, nilB, isNil, Nat.reduceEqDiff, Nat.reduceAdd, Nat.reduceLT, Nat.reduceLeDiff, Int.reduceNeg, Int.reduceToNat, reduceCtorEq, decide_true, decide_false, t1, t3, t4, t5, t6, encG, encR, encI, hb, hnb, hnb.symm, hgo]
            refine ⟨by omega, by omega, ?_⟩
            rw [if_pos ⟨hz, hh⟩] at hfold
            refine up_next hq (by omega) ⟨_, by simp [hol], hfold, hbd, ?_, by simp [View.set, hbd.symm, hnd, hd], t1, t3, t4, t5, rfl⟩
            simp only [View.set, if_true]
            rw [← intsE_set]
          · simp (disch := omega) only [↓wr, ↓reduceIte, wq, eq_self, ne_eq, implies_true, oneV, intOp, goI, splice, sBuild, fillE, nilB, isNil, Nat.reduceEqDiff, Nat.reduceAdd, Nat.reduceLT, Nat.reduceLeDiff, Int.reduceNeg, Int.reduceToNat, reduceCtorEq, decide_true, decide_false, t1, t3, t4, t5, t6, encG, encR, encI, hb, hnb, hnb.symm, hgo]
            rw [if_neg (fun e => hh e.2)] at hfold
            exact up_next hq (by omega) ⟨out, hol, hfold, hbd, by simp [View.set, hnb, hb], by simp [View.set, hnd, hd], t1, t3, t4, t5, rfl⟩
        · simp (disch := omega) only [↓wr, ↓reduceIte, wq, eq_self, ne_eq, implies_true, oneV, intOp, goI, splice, sBuild, fillE, nilB, isNil, Nat.reduceEqDiff, Nat.reduceAdd, Nat.reduceLT, Nat.reduceLeDiff, Int.reduceNeg, Int.reduceToNat, reduceCtorEq, decide_true, decide_false, t1, t3, t4, t5, t6, encG, encR, encI, hb, hnb, hnb.symm, hgo]
          rw [if_neg (fun e => hz e.1)] at hfold
          exact up_next hq (by omega) ⟨out, hol, hfold, hbd, by simp [View.set, hnb, hb], by simp [View.set, hnd, hd], t1, t3, t4, t5, rfl⟩
      · simp (disch := omega) only [↓wr, ↓reduceIte, wq, eq_self, ne_eq, implies_true, oneV, intOp, goI, splice, sBuild, fillE, nilB, isNil, Nat.reduceEqDiff, Nat.reduceAdd, Nat.reduceLT, Nat.reduceLeDiff, Int.reduceNeg, Int.reduceToNat, reduceCtorEq, decide_true, decide_false, t1, t3, t4, t5, t6]
        rw [List.drop_eq_nil_of_le (by omega), List.foldl_nil, roundHt] at hfold
        rw [hfold] at hb
        exact up_next hk (by omega) ⟨hb, t1, t3, rfl⟩
    · simp (disch := omega) only [↓wr, ↓reduceIte, wq, eq_self, ne_eq, implies_true, oneV, intOp, goI, splice, sBuild, fillE, nilB, isNil, Nat.reduceEqDiff, Nat.reduceAdd, Nat.reduceLT, Nat.reduceLeDiff, Int.reduceNeg, Int.reduceToNat, reduceCtorEq, decide_true, decide_false, t1, t3, t4]
      intro h' hh
      have : j = g.nons.length := by omega
      subst this
      exact frn_ints (by rw [hh]; exact .inr ⟨b, by simp [plans_len], hb⟩)
  · rename_i hr
    rw [hr]
    intro h' hh
    exact .emp _

def B_gerundref14_Rules_0 : SC :=
  .seq (.seq (.region false [⟨none, [((some 20), .op (.mov (.tmp 7))), ((some 21), .op (.arith .geq (.tmp 20) (.val (.val (.int .i64 0)))))]⟩]) <|
  .cond (.tmp 21) (.skip) (.exit 2)) <|
  .seq (.block 3 (.seq (.region true [⟨none, [((some 24), .op (.addr 2 (.tmp 1))), ((some 25), .op (.load none (.tmp 24))), ((some 26), .op (.mov (.tmp 7))), ((some 27), .op (.idx 3 (.tmp 25) (.tmp 26))), ((some 28), .op (.addr 0 (.tmp 27))), ((some 29), .op (.load none (.tmp 28))), ((some 30), .op (.mov (.tmp 5))), ((some 31), .op (.arith .eql (.tmp 29) (.tmp 30))), ((some 32), .op (.mov (.tmp 31)))]⟩, ⟨(some (32, true)), [((some 33), .op (.mov (.tmp 3))), ((some 34), .op (.mov (.tmp 5))), ((some 35), .op (.idx 1 (.tmp 33) (.tmp 34))), ((some 36), .op (.load none (.tmp 35))), ((some 37), .op (.arith .gtr (.tmp 36) (.val (.val (.int .i64 0)))))]⟩, ⟨none, [((some 38), .op (.pick (.tmp 32) (.tmp 37) (.val (.val (.bool false))))), ((some 39), .op (.mov (.tmp 38)))]⟩, ⟨(some (39, true)), [((some 40), .op (.addr 2 (.tmp 1))), ((some 41), .op (.load none (.tmp 40))), ((some 42), .op (.mov (.tmp 7))), ((some 43), .op (.idx 3 (.tmp 41) (.tmp 42))), ((some 44), .op (.load (some 3) (.tmp 43))), ((some 45), .op (.mov (.tmp 3))), ((some 46), .call (.val (.fn 58 [] [])) [(.tmp 44), (.tmp 45)]), ((some 47), .op (.mov (.tmp 3))), ((some 48), .op (.mov (.tmp 5))), ((some 49), .op (.idx 1 (.tmp 47) (.tmp 48))), ((some 50), .op (.load none (.tmp 49))), ((some 51), .op (.arith .eql (.tmp 46) (.tmp 50)))]⟩, ⟨none, [((some 52), .op (.pick (.tmp 39) (.tmp 51) (.val (.val (.bool false)))))]⟩]) <|
  .cond (.tmp 52) (.region false [⟨none, [((some 53), .op (.mov (.tmp 7))), ((some 6), .op (.mov (.tmp 53)))]⟩]) (.skip))) <|
  .region false [⟨none, [((some 22), .op (.mov (.tmp 7))), ((some 23), .op (.arith .sub (.tmp 22) (.val (.val (.int .i64 1))))), ((some 7), .op (.mov (.tmp 23)))]⟩]
def B_gerundref14_Rules_1 : SC :=
  .seq (.seq (.region false [⟨none, [((some 10), .op (.mov (.tmp 5))), ((some 11), .op (.mov (.tmp 3))), ((some 12), .op (.len (.tmp 11))), ((some 13), .op (.arith .lss (.tmp 10) (.tmp 12)))]⟩]) <|
  .cond (.tmp 13) (.skip) (.exit 0)) <|
  .seq (.block 1 (.seq (.region false [⟨none, [((some 6), .op (.mov (.val (.val (.int .i64 (-1))))))]⟩]) <|
  .seq (.seq (.region false [⟨none, [((some 16), .op (.addr 2 (.tmp 1))), ((some 17), .op (.load none (.tmp 16))), ((some 18), .op (.len (.tmp 17))), ((some 19), .op (.arith .sub (.tmp 18) (.val (.val (.int .i64 1))))), ((some 7), .op (.mov (.tmp 19)))]⟩]) <|
  .block 2 (.loop B_gerundref14_Rules_0)) <|
  .region false [⟨none, [((some 54), .op (.mov (.tmp 4))), ((some 55), .op (.mov (.tmp 6))), ((some 56), .op (.bslice 1 1 [(.val (.int .i64 0))] [(0, (.tmp 55))])), ((some 57), .op (.app 1 8 (.tmp 54) (.tmp 56))), ((some 4), .op (.mov (.tmp 57)))]⟩])) <|
  .region false [⟨none, [((some 14), .op (.mov (.tmp 5))), ((some 15), .op (.arith .add (.tmp 14) (.val (.val (.int .i64 1))))), ((some 5), .op (.mov (.tmp 15)))]⟩]
def S_gerundref14_Rules : SF := ⟨.seq (.region false [⟨none, [((some 1), .op (.frz (.tmp 0))), ((some 2), .op (.mov (.val (.emp 1))))]⟩]) <|
  .seq (.region false [⟨none, [((some 8), .op (.load (some 4) (.tmp 1))), ((some 9), .call (.val (.fn 33 [] [])) [(.tmp 8)]), ((some 3), .op (.mov (.tmp 9)))]⟩]) <|
  .seq (.region false [⟨none, [((some 4), .op (.mov (.val (.emp 1))))]⟩]) <|
  .seq (.seq (.region false [⟨none, [((some 5), .op (.mov (.val (.val (.int .i64 0)))))]⟩]) <|
  .block 0 (.loop B_gerundref14_Rules_1)) <|
  .seq (.region false [⟨none, [((some 58), .op (.mov (.tmp 4))), ((some 2), .op (.mov (.tmp 58)))]⟩]) <|
  .ret,
  [.tmp 2], 59⟩
theorem S_gerundref14_Rules_ok : compF Tryz.prog 35 [1] = some S_gerundref14_Rules := by kernel_rfl

theorem bestD_cons {h : List Int} {m : Nat} {l : List Rule} {c : Nat} {r : Rule} (hr : l[c]? = some r) : bestD h m (l.drop c) c = if r.left = (m : Int) ∧ 0 < hAt h m ∧ highD h r.right 0 = hAt h m then (c : Int) else bestD h m (l.drop (c + 1)) ((c : Int) + 1) := by
  have hc : c < l.length := (List.getElem?_eq_some_iff.1 hr).1
  have he : l[c] = r := (List.getElem?_eq_some_iff.1 hr).2
  rw [List.drop_eq_getElem_cons hc, he, bestD]

def RulI (g : Gram) (h : List Int) (u : V) (j c : Nat) (T : Env) (H : View) : Prop :=
  c ≤ g.rules.length ∧ T 1 = .fptr (encG g) 0 ∧ T 3 = encI h ∧ T 4 = u ∧ OwnA H u 1 (intsE ((List.range j).map fun m => bestD h m g.rules 0)) ∧ T 5 = gi j ∧ T 6 = gi (bestD h j (g.rules.drop c) c) ∧ T 7 = gi ((c : Int) - 1)

set_option maxHeartbeats 4000000 in
theorem pn_Rules14 (g : Gram) (hg : g.Ok) : PNew Tryz.prog 35 [.agg (encG g)] (encI (if right09 g = true then rulesP g else [])) := by
  refine PNew.of (gg_tree g) ?_
  refine MCall.of mixed S_gerundref14_Rules_ok ?_
  simp (disch := omega) only [↓wr, ↓reduceIte, wq, eq_self, ne_eq, implies_true, oneV, intOp, goI, splice, sBuild, fillE, nilB, isNil, Nat.reduceEqDiff, Nat.reduceAdd, Nat.reduceLT, Nat.reduceLeDiff, Int.reduceNeg, Int.reduceToNat, reduceCtorEq, decide_true, decide_false, S_gerundref14_Rules, encG, encS]
  refine CallG.pure (pn_Heights14 g hg).pure (by kernel_rfl) ?_
  by_cases hr : right09 g = true
  · have hf := right09_fine hr
    have z1 := hf.nons1
    have z2 := hf.nons
    have z3 := hf.rules
    rw [if_pos hr, if_pos hr]
    have hrl : rulesP g = (List.range g.nons.length).map fun m => bestD (hgts (plansG g)) m g.rules 0 := by
      apply List.ext_getElem (by simp [rulesP, plans_len])
      intro m h1 h2
      simp only [rulesP, List.getElem_map, List.getElem_range]
      rw [best_plans (fun r hr' => (hf.left r hr').1)]
      have : m < (plansG g).length := by simpa [rulesP] using h1
      simp [pAt, List.getD_eq_getElem?_getD, this]
    have hso : HsOk (hgts (plansG g)) := hs_stage z3 z2
    have hhl : (hgts (plansG g)).length = g.nons.length := by simp [plans_len]
    rw [hrl]
    generalize hgts (plansG g) = h at hso hhl ⊢
    simp (disch := omega) only [↓wr, ↓reduceIte, wq, eq_self, ne_eq, implies_true, oneV, intOp, goI, splice, sBuild, fillE, nilB, isNil, Nat.reduceEqDiff, Nat.reduceAdd, Nat.reduceLT, Nat.reduceLeDiff, Int.reduceNeg, Int.reduceToNat, reduceCtorEq, decide_true, decide_false, encI, encG, encS]
    refine LoopG.up g.nons.length (fun j T H' => ∃ u, T 4 = u ∧ OwnA H' u 1 (intsE ((List.range j).map fun m => bestD h m g.rules 0)) ∧ T 1 = .fptr (encG g) 0 ∧ T 3 = encI h ∧ T 5 = gi j) ⟨_, rfl, .nil, rfl, rfl, rfl⟩ ?_
    rintro j k T H hk ⟨u, t4, ho, t1, t3, t5⟩
    simp (disch := omega) only [↓wr, ↓reduceIte, wq, eq_self, ne_eq, implies_true, oneV, intOp, goI, splice, sBuild, fillE, nilB, isNil, Nat.reduceEqDiff, Nat.reduceAdd, Nat.reduceLT, Nat.reduceLeDiff, Int.reduceNeg, Int.reduceToNat, reduceCtorEq, decide_true, decide_false, B_gerundref14_Rules_1, t1, t3, t4, t5, encI]
    refine GoB.dec (fun hc => ?_) (fun hc => ?_)
    · have hjm := hAt_get (h := h) (m := j) (by omega)
      simp (disch := omega) only [↓wr, ↓reduceIte, wq, eq_self, ne_eq, implies_true, oneV, intOp, goI, splice, sBuild, fillE, nilB, isNil, Nat.reduceEqDiff, Nat.reduceAdd, Nat.reduceLT, Nat.reduceLeDiff, Int.reduceNeg, Int.reduceToNat, reduceCtorEq, decide_true, decide_false, t1, t3, t4, t5, encI, encG]
      refine LoopG.intro (RulI g h u j) g.rules.length ?_ ?_
      · refine ⟨by omega, t1, t3, t4, ho, t5, ?_, rfl⟩
        rw [List.drop_eq_nil_of_le (by omega)]; rfl
      clear t1 t3 t4 t5 ho
      rintro c T H ⟨hcl, t1, t3, t4, ho, t5, t6, t7⟩
      simp (disch := omega) only [↓wr, ↓reduceIte, wq, eq_self, ne_eq, implies_true, oneV, intOp, goI, splice, sBuild, fillE, nilB, isNil, Nat.reduceEqDiff, Nat.reduceAdd, Nat.reduceLT, Nat.reduceLeDiff, Int.reduceNeg, Int.reduceToNat, reduceCtorEq, decide_true, decide_false, B_gerundref14_Rules_0, t1, t3, t4, t5, t6, t7, encI, encG]
      refine GoB.dec (fun hc2 => ?_) (fun hc2 => ?_)
      · obtain ⟨c, rfl⟩ : ∃ c', c = c' + 1 := ⟨c - 1, by omega⟩
        have hg2 : g.rules[c]? = some (g.rules[c]'(by omega)) := List.getElem?_eq_getElem (by omega)
        have hmem : g.rules[c]'(by omega) ∈ g.rules := List.getElem_mem _
        generalize g.rules[c]'(by omega) = r at hg2 hmem
        have hri := hf.ruleIn hg hmem
        have hbc := bestD_cons (h := h) (m := j) hg2
        have e1 : (((c + 1 : Nat) : Int) - 1) = (c : Int) := by omega
        rw [e1] at t7
        try simp only [e1]
        rw [show (((c + 1 : Nat) : Int)) = (c : Int) + 1 by omega] at t6
        simp (disch := omega) only [↓wr, ↓reduceIte, wq, eq_self, ne_eq, implies_true, oneV, intOp, goI, splice, sBuild, fillE, nilB, isNil, Nat.reduceEqDiff, Nat.reduceAdd, Nat.reduceLT, Nat.reduceLeDiff, Int.reduceNeg, Int.reduceToNat, reduceCtorEq, decide_true, decide_false, t1, t3, t4, t5, t6, t7, encI, encG, encR, List.getElem?_map, hg2]
        refine GoB.eq (fun h1 => ?_) (fun h1 => ?_)
        · simp (disch := omega) only [↓wr, ↓reduceIte, wq, eq_self, ne_eq, implies_true, oneV, intOp, goI, splice, sBuild, fillE, nilB, isNil, Nat.reduceEqDiff, Nat.reduceAdd, Nat.reduceLT, Nat.reduceLeDiff, Int.reduceNeg, Int.reduceToNat, reduceCtorEq, decide_true, decide_false, t1, t3, t4, t5, t6, t7, encI, encG, encR, List.getElem?_map, hg2, hjm]
          refine GoB.dec (fun h2 => ?_) (fun h2 => ?_)
          · simp (disch := omega) only [↓wr, ↓reduceIte, wq, eq_self, ne_eq, implies_true, oneV, intOp, goI, splice, sBuild, fillE, nilB, isNil, Nat.reduceEqDiff, Nat.reduceAdd, Nat.reduceLT, Nat.reduceLeDiff, Int.reduceNeg, Int.reduceToNat, reduceCtorEq, decide_true, decide_false, t1, t3, t4, t5, t6, t7, encI, encG, encR, List.getElem?_map, hg2, hjm]
            refine CallG.pure (pc_high14 r h hso (by rw [hhl]; exact hri)) (by kernel_rfl) ?_
            simp (disch := omega) only [↓wr, ↓reduceIte, wq, eq_self, ne_eq, implies_true, oneV, intOp, goI, splice, sBuild, fillE, nilB, isNil, Nat.reduceEqDiff, Nat.reduceAdd, Nat.reduceLT, Nat.reduceLeDiff, Int.reduceNeg, Int.reduceToNat, reduceCtorEq, decide_true, decide_false, t1, t3, t4, t5, t6, t7, encI, encG, encR, List.getElem?_map, hg2, hjm]
            refine GoB.eq (fun h3 => ?_) (fun h3 => ?_)
            · simp (disch := omega) only [↓wr, ↓reduceIte, wq, eq_self, ne_eq, implies_true, oneV, intOp, goI, splice, sBuild, fillE, nilB, isNil, Nat.reduceEqDiff, Nat.reduceAdd, Nat.reduceLT, Nat.reduceLeDiff, Int.reduceNeg, Int.reduceToNat, reduceCtorEq, decide_true, decide_false, t1, t3, t4, t5, t6, t7]
              refine ⟨c, by omega, by omega, t1, t3, t4, ho, t5, ?_, rfl⟩
              rw [hbc, if_pos ⟨h1, h2, h3⟩]; rfl
            · simp (disch := omega) only [↓wr, ↓reduceIte, wq, eq_self, ne_eq, implies_true, oneV, intOp, goI, splice, sBuild, fillE, nilB, isNil, Nat.reduceEqDiff, Nat.reduceAdd, Nat.reduceLT, Nat.reduceLeDiff, Int.reduceNeg, Int.reduceToNat, reduceCtorEq, decide_true, decide_false, t1, t3, t4, t5, t6, t7]
              refine ⟨c, by omega, by omega, t1, t3, t4, ho, t5, ?_, rfl⟩
              rw [hbc, if_neg (fun e => h3 e.2.2)]; exact t6
          · simp (disch := omega) only [↓wr, ↓reduceIte, wq, eq_self, ne_eq, implies_true, oneV, intOp, goI, splice, sBuild, fillE, nilB, isNil, Nat.reduceEqDiff, Nat.reduceAdd, Nat.reduceLT, Nat.reduceLeDiff, Int.reduceNeg, Int.reduceToNat, reduceCtorEq, decide_true, decide_false, t1, t3, t4, t5, t6, t7]
            refine ⟨c, by omega, by omega, t1, t3, t4, ho, t5, ?_, rfl⟩
            rw [hbc, if_neg (fun e => h2 e.2.1)]; exact t6
        · simp (disch := omega) only [↓wr, ↓reduceIte, wq, eq_self, ne_eq, implies_true, oneV, intOp, goI, splice, sBuild, fillE, nilB, isNil, Nat.reduceEqDiff, Nat.reduceAdd, Nat.reduceLT, Nat.reduceLeDiff, Int.reduceNeg, Int.reduceToNat, reduceCtorEq, decide_true, decide_false, t1, t3, t4, t5, t6, t7]
          refine ⟨c, by omega, by omega, t1, t3, t4, ho, t5, ?_, rfl⟩
          rw [hbc, if_neg (fun e => h1 e.1)]; exact t6
      · have e0 : c = 0 := by omega
        subst e0
        simp only [List.drop_zero, Int.natCast_zero] at t6
        simp (disch := omega) only [↓wr, ↓reduceIte, wq, eq_self, ne_eq, implies_true, oneV, intOp, goI, splice, sBuild, fillE, nilB, isNil, Nat.reduceEqDiff, Nat.reduceAdd, Nat.reduceLT, Nat.reduceLeDiff, Int.reduceNeg, Int.reduceToNat, reduceCtorEq, decide_true, decide_false, t1, t3, t4, t5, t6, t7]
        intro n hn
        rw [elemsOf_new]
        simp (disch := omega) only [↓wr, ↓reduceIte, wq, eq_self, ne_eq, implies_true, oneV, intOp, goI, splice, sBuild, fillE, nilB, isNil, Nat.reduceEqDiff, Nat.reduceAdd, Nat.reduceLT, Nat.reduceLeDiff, Int.reduceNeg, Int.reduceToNat, reduceCtorEq, decide_true, decide_false, t1, t3, t4, t5, t6, t7]
        refine goApp_all (ho.fresh hn) (by simp [cellOk]) (by unfold limit; simp; omega) (by unfold limit; simp; omega) ?_
        intro u' H' ho' _
        simp (disch := omega) only [↓wr, ↓reduceIte, wq, eq_self, ne_eq, implies_true, oneV, intOp, goI, splice, sBuild, fillE, nilB, isNil, Nat.reduceEqDiff, Nat.reduceAdd, Nat.reduceLT, Nat.reduceLeDiff, Int.reduceNeg, Int.reduceToNat, reduceCtorEq, decide_true, decide_false, t1, t3, t4, t5, t6, t7]
        refine up_next hk (by omega) ⟨u', rfl, ?_, t1, t3, rfl⟩
        rw [List.range_succ]; simpa using ho'
    · simp (disch := omega) only [↓wr, ↓reduceIte, wq, eq_self, ne_eq, implies_true, oneV, intOp, goI, splice, sBuild, fillE, nilB, isNil, Nat.reduceEqDiff, Nat.reduceAdd, Nat.reduceLT, Nat.reduceLeDiff, Int.reduceNeg, Int.reduceToNat, reduceCtorEq, decide_true, decide_false, t1, t3, t4, t5]
      intro h' hh
      have : j = g.nons.length := by omega
      subst this
      exact frn_ints (by rw [hh]; exact ho)
  · have hr : right09 g = false := by simpa using hr
    rw [hr]
    simp (disch := omega) only [↓wr, ↓reduceIte, wq, eq_self, ne_eq, implies_true, oneV, intOp, goI, splice, sBuild, fillE, nilB, isNil, Nat.reduceEqDiff, Nat.reduceAdd, Nat.reduceLT, Nat.reduceLeDiff, Int.reduceNeg, Int.reduceToNat, reduceCtorEq, decide_true, decide_false, encI, encG, encS]
    refine LoopG.up 0 (fun j T H' => T 3 = .fro [] ∧ T 4 = .emp 1 ∧ T 5 = gi j) ⟨rfl, rfl, rfl⟩ ?_
    rintro j k T H hk ⟨t3, t4, t5⟩
    simp (disch := omega) only [↓wr, ↓reduceIte, wq, eq_self, ne_eq, implies_true, oneV, intOp, goI, splice, sBuild, fillE, nilB, isNil, Nat.reduceEqDiff, Nat.reduceAdd, Nat.reduceLT, Nat.reduceLeDiff, Int.reduceNeg, Int.reduceToNat, reduceCtorEq, decide_true, decide_false, B_gerundref14_Rules_1, t3, t4, t5]
    refine GoB.dec (fun hc => absurd hc (by simp)) (fun hc => ?_)
    simp (disch := omega) only [↓wr, ↓reduceIte, wq, eq_self, ne_eq, implies_true, oneV, intOp, goI, splice, sBuild, fillE, nilB, isNil, Nat.reduceEqDiff, Nat.reduceAdd, Nat.reduceLT, Nat.reduceLeDiff, Int.reduceNeg, Int.reduceToNat, reduceCtorEq, decide_true, decide_false, t3, t4, t5]
    intro h' hh
    exact .emp _
end Gv

/-
  How great least trees are: what the document's functions answer.
  Conditions: lists that are no longer than an int says, numbers that are ints.
-/
set_option linter.unusedSimpArgs false
set_option maxRecDepth 100000
namespace Gv
open Go Go.Proofs

def OkZ (s : Int × Int) : Prop := (0 ≤ s.1 ∧ s.1 ≤ 1000) ∧ (0 ≤ s.2 ∧ s.2 ≤ 1000)
def capsG (g : Gram) : List (Int × Int) := (plansG g).map capP
theorem capP_no : capP noP = (0, 0) := by decide
theorem sAt_caps (g : Gram) (m : Nat) : sAt (capsG g) m = capP (pAt (plansG g) m) := by
  simp only [capsG, sAt, pAt, List.getD_eq_getElem?_getD, List.getElem?_map]
  cases (plansG g)[m]? <;> rfl
theorem ok_cap (g : Gram) (m : Nat) : OkZ (capP (pAt (plansG g) m)) := by
  have h : PosP (pAt (plansG g) m) := stage_pos g _ m
  unfold PosP at h
  unfold OkZ capP; simp only; omega

/-- Those sizes are known that are no higher than j, and some of the next ones. -/
def SizeI (g : Gram) (j i : Nat) (S : List (Int × Int)) : Prop := S.length = g.nons.length ∧ ∀ m, sAt S m = if (pAt (plansG g) m).height ≤ j ∨ ((pAt (plansG g) m).height = j + 1 ∧ m < i) then capP (pAt (plansG g) m) else (0, 0)
theorem SizeI.ok {g : Gram} {j i : Nat} {S : List (Int × Int)} (h : SizeI g j i S) (m : Nat) : OkZ (sAt S m) := by
  rw [h.2 m]; split
  · exact ok_cap g m
  · unfold OkZ; simp
theorem sAt_set {S : List (Int × Int)} {i m : Nat} {v : Int × Int} (hm : m < S.length) : sAt (S.set i v) m = if i = m then v else sAt S m := by
  simp only [sAt, List.getD_eq_getElem?_getD, List.getElem?_set]
  split
  · rename_i e; subst e; simp [hm]
  · rfl
theorem SizeI.next {g : Gram} {j i : Nat} {S : List (Int × Int)} (h : SizeI g j i S) (hi : (pAt (plansG g) i).height ≠ (j : Int) + 1) : SizeI g j (i + 1) S := ⟨h.1, fun m => by
  rw [h.2 m]
  by_cases e : m = i
  · subst e
    by_cases h1 : (pAt (plansG g) m).height ≤ j
    · rw [if_pos (.inl h1), if_pos (.inl h1)]
    · rw [if_neg (by omega), if_neg (by omega)]
  · congr 1
    simp only [eq_iff_iff]
    constructor <;> rintro (h1 | h1) <;> first | exact .inl h1 | exact .inr ⟨h1.1, by omega⟩⟩
theorem SizeI.put {g : Gram} {j i : Nat} {S : List (Int × Int)} (h : SizeI g j i S) (hi : (pAt (plansG g) i).height = (j : Int) + 1) (hn : i < g.nons.length) : SizeI g j (i + 1) (S.set i (capP (pAt (plansG g) i))) := ⟨by simp [h.1], fun m => by
  by_cases hm : m < S.length
  · rw [sAt_set hm]
    by_cases e : i = m
    · subst e; rw [if_pos rfl, if_pos (.inr ⟨hi, by omega⟩)]
    · rw [if_neg e, h.2 m]
      congr 1
      simp only [eq_iff_iff]
      constructor <;> rintro (h1 | h1) <;> first | exact .inl h1 | exact .inr ⟨h1.1, by omega⟩
  · have : pAt (plansG g) m = noP := pAt_out (by rw [plans_len, ← h.1]; omega)
    have e : sAt (S.set i (capP (pAt (plansG g) i))) m = (0, 0) := by
      simp only [sAt, List.getD_eq_getElem?_getD]; rw [List.getElem?_eq_none (by simp; omega)]; rfl
    rw [e, this]
    split <;> simp [capP_no]⟩
theorem SizeI.turn {g : Gram} {j : Nat} {S : List (Int × Int)} (h : SizeI g j g.nons.length S) : SizeI g (j + 1) 0 S := ⟨h.1, fun m => by
  rw [h.2 m]
  by_cases hm : m < g.nons.length
  · congr 1
    simp only [eq_iff_iff]
    push_cast
    constructor
    · rintro (h1 | h1) <;> left <;> omega
    · rintro (h1 | h1)
      · omega
      · omega
  · have : pAt (plansG g) m = noP := pAt_out (by rw [plans_len]; omega)
    rw [this]; split <;> split <;> simp [capP_no]⟩
theorem SizeI.start (g : Gram) : SizeI g 0 0 (List.replicate g.nons.length (0, 0)) := ⟨by simp, fun m => by
  have e : sAt (List.replicate g.nons.length (0, 0)) m = (0, 0) := by
    simp only [sAt, List.getD_eq_getElem?_getD, List.getElem?_replicate]
    split <;> rfl
  rw [e]
  split
  · rename_i h
    by_cases hk : Known (plansG g) m
    · have := (plans_known hk).1; omega
    · rw [plans_un hk]; simp [capP_no]
  · rfl⟩
theorem SizeI.done {g : Gram} {S : List (Int × Int)} (h : SizeI g g.nons.length 0 S) : S = capsG g := by
  apply List.ext_getElem (by simp [h.1, capsG, plans_len])
  intro m h1 h2
  have e : S[m] = sAt S m := by simp [sAt, List.getD_eq_getElem?_getD, h1]
  have e2 : (capsG g)[m] = sAt (capsG g) m := by simp [sAt, List.getD_eq_getElem?_getD, h2]
  rw [e, e2, h.2 m, sAt_caps]
  by_cases hk : Known (plansG g) m
  · rw [if_pos (.inl (plans_known hk).2)]
  · rw [plans_un hk]; split <;> simp [capP_no]

end Gv

/-
  Least trees and words: what the document's functions answer.
  Conditions: a grammar that may be; trees that are no greater than a list may be.
-/
set_option linter.unusedSimpArgs false
set_option maxRecDepth 100000
namespace Gv
open Go Go.Proofs

theorem OwnA.elems {H : View} {u : V} {sz : Nat} {es : List (List V)} (h : OwnA H u sz es) : ∃ rd, elemsOf H u = some (es, rd) := by
  rcases h with ⟨rfl, k, rfl⟩ | ⟨n, rfl, hn⟩
  · exact ⟨[], rfl⟩
  · cases es with
    | nil => exact ⟨[], rfl⟩
    | cons e r =>
      refine ⟨[n], ?_⟩
      rw [List.length_cons, elemsOf_sl _ n 0 r.length sz sz _ hn (by simp), List.drop_zero, List.take_of_length_le (by simp)]
theorem Fresh.step {H H' H1 : View} {u u1 : V} (h : Fresh H H' u) (l : Left H' H1 u u1) : Fresh H H1 u1 := fun id hid => by
  have h1 := h id hid
  have h2 := l id (by rw [h1.1]; exact hid) h1.2
  exact ⟨h2.1.trans h1.1, h2.2⟩
theorem Fresh.put {H H' : View} {u : V} {n : Nat} {o : AObj} (h : Fresh H H' u) (hn : H' n = .dead) : Fresh H (H'.set n o) u := fun id hid => by
  have h1 := h id hid
  have e : id ≠ n := by rintro rfl; rw [h1.1] at hn; exact hid hn
  exact ⟨by simp [View.set, e, h1.1], h1.2⟩
theorem Fresh.call {H H' H2 : View} {u r : V} (h : Fresh H H' u) (k : Fresh H' H2 r) : Fresh H H2 u := fun id hid => by
  have h1 := h id hid
  have h2 := k id (by rw [h1.1]; exact hid)
  exact ⟨h2.1.trans h1.1, h1.2⟩

theorem tree_take (g : Gram) (f : Nat) (l : List Int) (i : Nat) : (treeD g (plansG g) f (l.take i)).length ≤ (treeD g (plansG g) f l).length := by
  have := treeD_app g (plansG g) f (l.take i) (l.drop i)
  rw [List.take_append_drop] at this
  rw [this]; simp
theorem word_take (g : Gram) (f : Nat) (l : List Int) (i : Nat) : (wordD g (plansG g) f (l.take i)).length ≤ (wordD g (plansG g) f l).length := by
  have := wordD_app g (plansG g) f (l.take i) (l.drop i)
  rw [List.take_append_drop] at this
  rw [this]; simp
end Gv

/-
  The least tree of a nonterminal, the least sentence of symbols: what the document answers.
  Conditions: lists that are no longer than an int says, numbers that are ints.
-/
set_option linter.unusedSimpArgs false
set_option maxRecDepth 100000
namespace Gv
open Go Go.Proofs

def outA (x : List Int × Int) : V := .tup [encI x.1, gi x.2]
def treeA (g : Gram) (n : Int) : List Int × Int :=
  if (right09 g && decide (0 ≤ n) && decide (n < g.nons.length)) = true then
    (if (pAt (plansG g) n.toNat).rule < 0 then ([], 9) else if 300 < (pAt (plansG g) n.toNat).rules then ([], 13) else (treeD g (plansG g) g.nons.length [-1 - n], 0))
  else ([], 1)
def wordA (g : Gram) (l : List Int) : List Int × Int :=
  if (right09 g && l.all (hasG g)) = true then
    (if (sumP (plansG g) l zeroP).2 = false then ([], 9) else if 300 < (sumP (plansG g) l zeroP).1.rules ∨ 60 < (sumP (plansG g) l zeroP).1.terms then ([], 13) else (wordD g (plansG g) g.nons.length l, 0))
  else ([], 1)

theorem frn_outA {h : Heap} {u : V} {x : List Int × Int} (hu : FrN h u (encI x.1)) : FrN h (.tup [u, gi x.2]) (outA x) := frn_tup2 hu (.val _)

theorem up_all {g : Gram} {l : List Int} (h : AllK (plansG g) l) : UpP (plansG g) g.nons.length l := fun x hx hn => ⟨h x hx hn, (plans_known (h x hx hn)).2⟩
theorem tree_size {g : Gram} {l : List Int} (h : AllK (plansG g) l) (hs : (sumP (plansG g) l zeroP).1.rules ≤ 300) : ((treeD g (plansG g) g.nons.length l).length : Int) = (sumP (plansG g) l zeroP).1.rules := by
  have := (size_tree g g.nons.length l zeroP (up_all h) pos_zero).1
  simp only [zeroP] at this hs ⊢
  omega
theorem sum_one {g : Gram} {n : Int} (h0 : 0 ≤ n) (hk : Known (plansG g) n.toNat) : (sumP (plansG g) [-1 - n] zeroP).1.rules = (pAt (plansG g) n.toNat).rules ∧ (sumP (plansG g) [-1 - n] zeroP).1.terms = (pAt (plansG g) n.toNat).terms := by
  have hp : PosP (pAt (plansG g) n.toNat) := stage_pos g _ _
  have e : nonN (-1 - n) = n.toNat := by unfold nonN; omega
  unfold Known at hk
  rw [sumP_non (by omega) (by rw [e]; omega), e]
  unfold PosP at hp
  simp only [sumP, zeroP]; omega

/-- Has one of these symbols no plan? -/
def noPlan (P : List Plan) (l : List Int) : Bool := l.any fun x => decide (x < 0) && decide ((pAt P (nonN x)).rule < 0)
theorem noPlan_sum (P : List Plan) (l : List Int) (s : Plan) : (sumP P l s).2 = !noPlan P l := by
  have h := sumP_ok P l s
  cases hb : noPlan P l with
  | true =>
    simp only [noPlan, List.any_eq_true, Bool.and_eq_true, decide_eq_true_eq] at hb
    obtain ⟨x, hx, hn, hk⟩ := hb
    cases hs : (sumP P l s).2 with
    | true => have := h.1 hs x hx hn; unfold Known at this; omega
    | false => rfl
  | false =>
    rw [Bool.not_false, h]
    intro x hx hn
    simp only [noPlan, List.any_eq_false, Bool.and_eq_true, decide_eq_true_eq] at hb
    have := hb x hx
    unfold Known; omega

end Gv

/-
  The least tree of a nonterminal, the least sentence of symbols: what the program's own functions answer.
  Conditions: lists that are no longer than an int says, numbers that are ints.
-/
set_option linter.unusedSimpArgs false
set_option maxRecDepth 100000
namespace Gv
open Go Go.Proofs

def B_least_writer_write_0 : SC :=
  .seq (.region false [⟨none, [((some 10), .op (.arith .lss (.tmp 9) (.tmp 8)))]⟩]) <|
  .seq (.cond (.tmp 10) (.skip) (.exit 0)) <|
  .seq (.block 1 (.seq (.region false [⟨none, [((some 11), .op (.idx 1 (.tmp 7) (.tmp 9))), ((some 12), .op (.load none (.tmp 11))), ((some 5), .op (.mov (.tmp 12)))]⟩]) <|
  .seq (.seq (.region false [⟨none, [((some 13), .op (.mov (.tmp 5))), ((some 14), .op (.arith .geq (.tmp 13) (.val (.val (.int .i64 0)))))]⟩]) <|
  .cond (.tmp 14) (.seq (.region false [⟨none, [((some 15), .op (.mov (.tmp 0))), ((some 16), .op (.mov (.tmp 0))), ((some 17), .op (.nilc (.tmp 16))), ((some 18), .op (.addr 6 (.tmp 17))), ((some 19), .op (.load none (.tmp 18))), ((some 20), .op (.mov (.tmp 5))), ((some 21), .op (.bslice 1 1 [(.val (.int .i64 0))] [(0, (.tmp 20))])), ((some 22), .op (.app 1 8 (.tmp 19) (.tmp 21))), ((some 23), .op (.nilc (.tmp 15))), ((some 24), .op (.addr 6 (.tmp 23))), (none, .op (.store 1 (.tmp 24) (.tmp 22)))]⟩]) <|
  .exit 1) (.skip)) <|
  .seq (.region false [⟨none, [((some 25), .op (.mov (.tmp 0))), ((some 26), .op (.nilc (.tmp 25))), ((some 27), .op (.addr 4 (.tmp 26))), ((some 28), .op (.load none (.tmp 27))), ((some 29), .op (.mov (.tmp 5))), ((some 30), .op (.arith .sub (.val (.val (.int .i64 (-1)))) (.tmp 29))), ((some 31), .op (.idx 4 (.tmp 28) (.tmp 30))), ((some 32), .op (.addr 0 (.tmp 31))), ((some 33), .op (.load none (.tmp 32))), ((some 6), .op (.mov (.tmp 33)))]⟩]) <|
  .seq (.region false [⟨none, [((some 34), .op (.mov (.tmp 0))), ((some 35), .op (.mov (.tmp 0))), ((some 36), .op (.nilc (.tmp 35))), ((some 37), .op (.addr 5 (.tmp 36))), ((some 38), .op (.load none (.tmp 37))), ((some 39), .op (.mov (.tmp 6))), ((some 40), .op (.bslice 1 1 [(.val (.int .i64 0))] [(0, (.tmp 39))])), ((some 41), .op (.app 1 8 (.tmp 38) (.tmp 40))), ((some 42), .op (.nilc (.tmp 34))), ((some 43), .op (.addr 5 (.tmp 42))), (none, .op (.store 1 (.tmp 43) (.tmp 41)))]⟩]) <|
  .region false [⟨none, [((some 44), .op (.mov (.tmp 0))), ((some 45), .op (.mov (.tmp 0))), ((some 46), .op (.nilc (.tmp 45))), ((some 47), .op (.addr 0 (.tmp 46))), ((some 48), .op (.addr 2 (.tmp 47))), ((some 49), .op (.load none (.tmp 48))), ((some 50), .op (.mov (.tmp 6))), ((some 51), .op (.idx 3 (.tmp 49) (.tmp 50))), ((some 52), .op (.addr 1 (.tmp 51))), ((some 53), .op (.load none (.tmp 52))), ((some 54), .call (.val (.fn 91 [] [])) [(.tmp 44), (.tmp 53)])]⟩])) <|
  .region false [⟨none, [((some 55), .op (.arith .add (.tmp 9) (.val (.val (.int .i64 1))))), ((some 9), .op (.mov (.tmp 55)))]⟩]
def S_least_writer_write : SF := ⟨.seq (.region false [⟨none, [((some 7), .op (.mov (.tmp 1))), ((some 8), .op (.len (.tmp 7))), ((some 9), .op (.mov (.val (.val (.int .i64 0)))))]⟩]) <|
  .block 0 (.loop B_least_writer_write_0),
  [], 56⟩
theorem S_least_writer_write_ok : compF Tryz.prog 91 [] = some S_least_writer_write := by kernel_rfl

/-- What a writer holds. -/
def encW (g : Gram) (r w : V) : List V := [.fro (g.terms.map encT), .fro (g.nons.map fun s => [gs s]), .fro (g.rules.map encR), gi g.start, encPs (plansG g), r, w]
def Wrt (g : Gram) (b : Nat) (R W : List Int) (H : View) : Prop := ∃ ur uw, Owns H [(.sl b 0 1 7, 7, [encW g ur uw]), (ur, 1, intsE R), (uw, 1, intsE W)]

set_option maxHeartbeats 4000000 in
theorem mo_write (g : Gram) (hg : g.Ok) (hf : g.Fine) (b : Nat) : ∀ (f : Nat) (l : List Int), Short l → (∀ x ∈ l, In64 x ∧ (x < 0 → -1 - x < g.nons.length)) → UpP (plansG g) f l → ∀ (R W : List Int) (H : View), (R ++ treeD g (plansG g) f l).length ≤ 100000 → (W ++ wordD g (plansG g) f l).length ≤ 100000 →
    Wrt g b R W H → MCall Tryz.prog 91 [.ptr b 0 0, encI l] H fun _ H' => Wrt g b (R ++ treeD g (plansG g) f l) (W ++ wordD g (plansG g) f l) H' := by
  intro f
  induction f using Nat.strongRecOn with
  | _ f ih =>
    intro l hl hn hu R W H0 hbR hbW ho0
    refine MCall.of mixed S_least_writer_write_ok ?_
    unfold Short at hl
    simp (disch := omega) only [↓wr, ↓reduceIte, wq, eq_self, ne_eq, implies_true, oneV, intOp, goI, splice, sBuild, fillE, nilB, isNil, Nat.reduceEqDiff, Nat.reduceAdd, Nat.reduceLT, Nat.reduceLeDiff, Int.reduceNeg, Int.reduceToNat, reduceCtorEq, decide_true, decide_false, S_least_writer_write, encI]
    refine LoopG.up l.length (fun i T H' => Wrt g b (R ++ treeD g (plansG g) f (l.take i)) (W ++ wordD g (plansG g) f (l.take i)) H' ∧ T 0 = .ptr b 0 0 ∧ T 7 = encI l ∧ T 8 = gi l.length ∧ T 9 = gi i) ⟨by rw [List.take_zero, treeD_nil, wordD_nil, List.append_nil, List.append_nil]; exact ho0, rfl, rfl, rfl, rfl⟩ ?_
    rintro i k T H hk ⟨⟨ur, uw, ho⟩, t0, t7, t8, t9⟩
    simp (disch := omega) only [↓wr, ↓reduceIte, wq, eq_self, ne_eq, implies_true, oneV, intOp, goI, splice, sBuild, fillE, nilB, isNil, Nat.reduceEqDiff, Nat.reduceAdd, Nat.reduceLT, Nat.reduceLeDiff, Int.reduceNeg, Int.reduceToNat, reduceCtorEq, decide_true, decide_false, B_least_writer_write_0, t0, t7, t8, t9, encI]
    refine GoB.dec (fun hc => ?_) (fun hc => ?_)
    · have hg1 : l[i]? = some (l[i]'(by omega)) := List.getElem?_eq_getElem (by omega)
      have hmem : l[i]'(by omega) ∈ l := List.getElem_mem _
      have htk : l.take (i + 1) = l.take i ++ [l[i]'(by omega)] := by rw [List.take_add_one, hg1]; rfl
      have hbt := tree_take g f l (i + 1)
      have hbw := word_take g f l (i + 1)
      generalize l[i]'(by omega) = x at hg1 hmem htk
      obtain ⟨⟨hx1, hx2⟩, hx3⟩ := hn x hmem
      rw [htk, treeD_app] at hbt
      rw [htk, wordD_app] at hbw
      simp only [List.length_append] at hbR hbW hbt hbw
      have hb := ho.is 0 rfl (by simp)
      simp (disch := omega) only [↓wr, ↓reduceIte, wq, eq_self, ne_eq, implies_true, oneV, intOp, goI, splice, sBuild, fillE, nilB, isNil, Nat.reduceEqDiff, Nat.reduceAdd, Nat.reduceLT, Nat.reduceLeDiff, Int.reduceNeg, Int.reduceToNat, reduceCtorEq, decide_true, decide_false, t0, t7, t8, t9, encI, List.getElem?_map, hg1]
      refine GoB.dec (fun hx => ?_) (fun hx => ?_)
      · rw [wordD_term (show 0 ≤ x from hx)] at hbw
        simp only [List.length_cons, List.length_nil] at hbw
        simp (disch := omega) only [↓wr, ↓reduceIte, wq, eq_self, ne_eq, implies_true, oneV, intOp, goI, splice, sBuild, fillE, nilB, isNil, Nat.reduceEqDiff, Nat.reduceAdd, Nat.reduceLT, Nat.reduceLeDiff, Int.reduceNeg, Int.reduceToNat, reduceCtorEq, decide_true, decide_false, t0, t7, t8, t9, hb, encW]
        intro n hn1
        rw [elemsOf_new]
        simp (disch := omega) only [↓wr, ↓reduceIte, wq, eq_self, ne_eq, implies_true, oneV, intOp, goI, splice, sBuild, fillE, nilB, isNil, Nat.reduceEqDiff, Nat.reduceAdd, Nat.reduceLT, Nat.reduceLeDiff, Int.reduceNeg, Int.reduceToNat, reduceCtorEq, decide_true, decide_false, t0, t7, t8, t9]
        refine goApp_owns ((ho.at 2 (by simp)).fresh hn1) (by simp [cellOk]) (by unfold limit; simp; omega) (by unfold limit; simp; omega) ?_
        intro u1 H1 o1 _
        simp only [List.eraseIdx_cons_succ, List.eraseIdx_cons_zero] at o1
        have hb1 := o1.is 1 rfl (by simp)
        have c1 := o1.head.cells
        have k1 := o1.head.cok
        simp (disch := omega) only [↓wr, ↓reduceIte, wq, eq_self, ne_eq, implies_true, oneV, intOp, goI, splice, sBuild, fillE, nilB, isNil, Nat.reduceEqDiff, Nat.reduceAdd, Nat.reduceLT, Nat.reduceLeDiff, Int.reduceNeg, Int.reduceToNat, reduceCtorEq, decide_true, decide_false, t0, t7, t8, t9, hb1, encW, c1, k1]
        have o2 := (o1.at 1 (by simp)).put (es' := [encW g ur u1]) rfl rfl
        simp only [List.eraseIdx_cons_succ, List.eraseIdx_cons_zero] at o2
        refine up_next hk (by omega) ⟨⟨ur, u1, ?_⟩, t0, t7, t8, rfl⟩
        rw [htk, treeD_app, wordD_app, treeD_term (show 0 ≤ x from hx), wordD_term (show 0 ≤ x from hx), List.append_nil]
        have o3 := o2.perm (.cons _ (.swap _ _ _))
        simpa [encW] using o3
      · obtain ⟨f, rfl⟩ : ∃ f', f = f' + 1 := by
          cases f with
          | zero => have := up_zero hu x hmem; omega
          | succ f => exact ⟨f, rfl⟩
        obtain ⟨hkn, hh⟩ := hu x hmem (by omega)
        obtain ⟨ri, r, hi, hr, hra, hur, _⟩ := up_child (f := f) hkn (by push_cast at hh; exact hh)
        have hgp := encPs_get (P := plansG g) (m := nonN x) (by rw [plans_len]; have := hx3 (by omega); unfold nonN; omega)
        have hmr := List.mem_of_getElem? hr
        have hrl : ri < g.rules.length := (List.getElem?_eq_some_iff.1 hr).1
        have hrw := hg.rule r hmr
        rw [treeD_non (by omega), hra, hi] at hbt
        rw [wordD_non (by omega), hra] at hbw
        simp only [List.length_cons] at hbt
        generalize hpx : pAt (plansG g) (nonN x) = p at hgp hi hra
        simp (disch := omega) only [↓wr, ↓reduceIte, wq, eq_self, ne_eq, implies_true, oneV, intOp, goI, splice, sBuild, fillE, nilB, isNil, Nat.reduceEqDiff, Nat.reduceAdd, Nat.reduceLT, Nat.reduceLeDiff, Int.reduceNeg, Int.reduceToNat, reduceCtorEq, decide_true, decide_false, t0, t7, t8, t9, hb, encW]
        simp (disch := omega) only [↓wr, ↓reduceIte, wq, eq_self, ne_eq, implies_true, oneV, intOp, goI, splice, sBuild, fillE, nilB, isNil, Nat.reduceEqDiff, Nat.reduceAdd, Nat.reduceLT, Nat.reduceLeDiff, Int.reduceNeg, Int.reduceToNat, reduceCtorEq, decide_true, decide_false, t0, t7, t8, t9, hb, encW, hgp, encPl, hi]
        intro n hn1
        rw [elemsOf_new]
        simp (disch := omega) only [↓wr, ↓reduceIte, wq, eq_self, ne_eq, implies_true, oneV, intOp, goI, splice, sBuild, fillE, nilB, isNil, Nat.reduceEqDiff, Nat.reduceAdd, Nat.reduceLT, Nat.reduceLeDiff, Int.reduceNeg, Int.reduceToNat, reduceCtorEq, decide_true, decide_false, t0, t7, t8, t9]
        refine goApp_owns ((ho.at 1 (by simp)).fresh hn1) (by simp [cellOk]) (by unfold limit; simp; omega) (by unfold limit; simp; omega) ?_
        intro u1 H1 o1 _
        simp only [List.eraseIdx_cons_succ, List.eraseIdx_cons_zero] at o1
        have hb1 := o1.is 1 rfl (by simp)
        have c1 := o1.head.cells
        have k1 := o1.head.cok
        simp (disch := omega) only [↓wr, ↓reduceIte, wq, eq_self, ne_eq, implies_true, oneV, intOp, goI, splice, sBuild, fillE, nilB, isNil, Nat.reduceEqDiff, Nat.reduceAdd, Nat.reduceLT, Nat.reduceLeDiff, Int.reduceNeg, Int.reduceToNat, reduceCtorEq, decide_true, decide_false, t0, t7, t8, t9, hb1, encW, c1, k1, encR, List.getElem?_map, hr, encI]
        have o2 := (o1.at 1 (by simp)).put (es' := [encW g u1 uw]) rfl rfl
        simp only [List.eraseIdx_cons_succ, List.eraseIdx_cons_zero] at o2
        have hcall := ih f (by omega) r.right hrw.2.2.1 (fun y hy => ⟨hrw.2.2.2 y hy, fun hn => hf.neg hmr hy hn⟩) hur (R ++ treeD g (plansG g) (f + 1) (l.take i) ++ [(ri : Int)]) (W ++ wordD g (plansG g) (f + 1) (l.take i)) _
          (by simp only [List.length_append, List.length_cons, List.length_nil]; omega) (by simp only [List.length_append]; omega) ⟨u1, uw, by simpa using o2⟩
        simp only [encW, encI] at hcall
        refine CallG.loud (hcall.mono ?_)
        rintro v H2 ⟨ur2, uw2, o3⟩
        simp (disch := omega) only [↓wr, ↓reduceIte, wq, eq_self, ne_eq, implies_true, oneV, intOp, goI, splice, sBuild, fillE, nilB, isNil, Nat.reduceEqDiff, Nat.reduceAdd, Nat.reduceLT, Nat.reduceLeDiff, Int.reduceNeg, Int.reduceToNat, reduceCtorEq, decide_true, decide_false, t0, t7, t8, t9]
        refine up_next hk (by omega) ⟨⟨ur2, uw2, ?_⟩, t0, t7, t8, rfl⟩
        rw [htk, treeD_app, wordD_app, treeD_non (by omega), wordD_non (by omega), hpx, hi, ← hi, hra, hi]
        simpa using o3
    · rw [List.take_of_length_le (by omega)] at ho
      simp (disch := omega) only [↓wr, ↓reduceIte, wq, eq_self, ne_eq, implies_true, oneV, intOp, goI, splice, sBuild, fillE, nilB, isNil, Nat.reduceEqDiff, Nat.reduceAdd, Nat.reduceLT, Nat.reduceLeDiff, Int.reduceNeg, Int.reduceToNat, reduceCtorEq, decide_true, decide_false, t0, t7, t8, t9]
      exact ⟨ur, uw, ho⟩

/-- Symbols in a tree; one nonterminal in a list. -/
def HasI (H : View) (u : V) (l : List Int) : Prop := u = encI l ∨ ∃ (m : Nat) (x : Int), l = [x] ∧ x < 0 ∧ u = .sl m 0 1 1 ∧ H m = .arr 1 [[gi x]]
theorem HasI.lent {H : View} {u : V} {l : List Int} (h : HasI H u l) : Lent H u (encI l) := by
  rcases h with rfl | ⟨m, x, rfl, _, rfl, hm⟩
  · exact Lent.tree (encI_tree l)
  · exact lent_intsL (l := [x]) hm rfl
theorem HasI.keep {H H' : View} {u : V} {l : List Int} (h : HasI H u l) (hk : ∀ id, H id ≠ .dead → H' id = H id) : HasI H' u l := by
  rcases h with rfl | ⟨m, x, rfl, hx, rfl, hm⟩
  · exact .inl rfl
  · exact .inr ⟨m, x, rfl, hx, rfl, by rw [hk m (by rw [hm]; simp)]; exact hm⟩

set_option maxHeartbeats 4000000 in
theorem mo_write_any (g : Gram) (hg : g.Ok) (hf : g.Fine) (b : Nat) (f : Nat) (l : List Int) (hl : Short l) (hn : ∀ x ∈ l, In64 x ∧ (x < 0 → -1 - x < g.nons.length)) (hu : UpP (plansG g) f l) (R W : List Int) (H : View) (hbR : (R ++ treeD g (plansG g) f l).length ≤ 100000) (hbW : (W ++ wordD g (plansG g) f l).length ≤ 100000)
    (hw : Wrt g b R W H) (u : V) (hi : HasI H u l) : MCall Tryz.prog 91 [.ptr b 0 0, u] H fun _ H' => Wrt g b (R ++ treeD g (plansG g) f l) (W ++ wordD g (plansG g) f l) H' := by
  rcases hi with rfl | ⟨m, x, rfl, hx0, rfl, hm⟩
  · exact mo_write g hg hf b f l hl hn hu R W H hbR hbW hw
  · obtain ⟨⟨hx1, hx2⟩, hx3⟩ := hn x (by simp)
    refine MCall.of mixed S_least_writer_write_ok ?_
    simp (disch := omega) only [↓wr, ↓reduceIte, wq, eq_self, ne_eq, implies_true, oneV, intOp, goI, splice, sBuild, fillE, nilB, isNil, Nat.reduceEqDiff, Nat.reduceAdd, Nat.reduceLT, Nat.reduceLeDiff, Int.reduceNeg, Int.reduceToNat, reduceCtorEq, decide_true, decide_false, S_least_writer_write]
    refine LoopG.up 1 (fun i T H' => ((i = 0 ∧ H' = H) ∨ (i = 1 ∧ Wrt g b (R ++ treeD g (plansG g) f [x]) (W ++ wordD g (plansG g) f [x]) H')) ∧ T 0 = .ptr b 0 0 ∧ T 7 = .sl m 0 1 1 ∧ T 8 = gi 1 ∧ T 9 = gi i) ⟨.inl ⟨rfl, rfl⟩, rfl, rfl, rfl, rfl⟩ ?_
    rintro i k T H1 hk ⟨h7, t0, t7, t8, t9⟩
    rcases h7 with ⟨rfl, rfl⟩ | ⟨rfl, ho⟩
    · obtain ⟨ur, uw, ho⟩ := hw
      have hb := ho.is 0 rfl (by simp)
      simp (disch := omega) only [↓wr, ↓reduceIte, wq, eq_self, ne_eq, implies_true, oneV, intOp, goI, splice, sBuild, fillE, nilB, isNil, Nat.reduceEqDiff, Nat.reduceAdd, Nat.reduceLT, Nat.reduceLeDiff, Int.reduceNeg, Int.reduceToNat, reduceCtorEq, decide_true, decide_false, B_least_writer_write_0, t0, t7, t8, t9, hm]
      refine GoB.dec (fun _ => ?_) (fun hc => absurd hc (by decide))
      simp (disch := omega) only [↓wr, ↓reduceIte, wq, eq_self, ne_eq, implies_true, oneV, intOp, goI, splice, sBuild, fillE, nilB, isNil, Nat.reduceEqDiff, Nat.reduceAdd, Nat.reduceLT, Nat.reduceLeDiff, Int.reduceNeg, Int.reduceToNat, reduceCtorEq, decide_true, decide_false, t0, t7, t8, t9, hm]
      refine GoB.dec (fun hc => absurd hc (by omega)) (fun _ => ?_)
      obtain ⟨f, rfl⟩ : ∃ f', f = f' + 1 := by
        cases f with
        | zero => have := up_zero hu x (by simp); omega
        | succ f => exact ⟨f, rfl⟩
      obtain ⟨hkn, hh⟩ := hu x (by simp) (by omega)
      obtain ⟨ri, r, hi, hr, hra, hur, _⟩ := up_child (f := f) hkn (by push_cast at hh; exact hh)
      have hgp := encPs_get (P := plansG g) (m := nonN x) (by rw [plans_len]; have := hx3 (by omega); unfold nonN; omega)
      have hmr := List.mem_of_getElem? hr
      have hrl : ri < g.rules.length := (List.getElem?_eq_some_iff.1 hr).1
      have hrw := hg.rule r hmr
      rw [treeD_non (by omega), hra, hi] at hbR ⊢
      rw [wordD_non (by omega), hra] at hbW ⊢
      simp only [List.length_append, List.length_cons] at hbR hbW
      generalize hpx : pAt (plansG g) (nonN x) = p at hgp hi hra
      simp (disch := omega) only [↓wr, ↓reduceIte, wq, eq_self, ne_eq, implies_true, oneV, intOp, goI, splice, sBuild, fillE, nilB, isNil, Nat.reduceEqDiff, Nat.reduceAdd, Nat.reduceLT, Nat.reduceLeDiff, Int.reduceNeg, Int.reduceToNat, reduceCtorEq, decide_true, decide_false, t0, t7, t8, t9, hb, encW]
      simp (disch := omega) only [↓wr, ↓reduceIte, wq, eq_self, ne_eq, implies_true, oneV, intOp, goI, splice, sBuild, fillE, nilB, isNil, Nat.reduceEqDiff, Nat.reduceAdd, Nat.reduceLT, Nat.reduceLeDiff, Int.reduceNeg, Int.reduceToNat, reduceCtorEq, decide_true, decide_false, t0, t7, t8, t9, hb, encW, hgp, encPl, hi]
      intro n hn1
      rw [elemsOf_new]
      simp (disch := omega) only [↓wr, ↓reduceIte, wq, eq_self, ne_eq, implies_true, oneV, intOp, goI, splice, sBuild, fillE, nilB, isNil, Nat.reduceEqDiff, Nat.reduceAdd, Nat.reduceLT, Nat.reduceLeDiff, Int.reduceNeg, Int.reduceToNat, reduceCtorEq, decide_true, decide_false, t0, t7, t8, t9]
      refine goApp_owns ((ho.at 1 (by simp)).fresh hn1) (by simp [cellOk]) (by unfold limit; simp; omega) (by unfold limit; simp; omega) ?_
      intro u1 H1 o1 _
      simp only [List.eraseIdx_cons_succ, List.eraseIdx_cons_zero] at o1
      have hb1 := o1.is 1 rfl (by simp)
      have c1 := o1.head.cells
      have k1 := o1.head.cok
      simp (disch := omega) only [↓wr, ↓reduceIte, wq, eq_self, ne_eq, implies_true, oneV, intOp, goI, splice, sBuild, fillE, nilB, isNil, Nat.reduceEqDiff, Nat.reduceAdd, Nat.reduceLT, Nat.reduceLeDiff, Int.reduceNeg, Int.reduceToNat, reduceCtorEq, decide_true, decide_false, t0, t7, t8, t9, hb1, encW, c1, k1, encR, List.getElem?_map, hr, encI]
      have o2 := (o1.at 1 (by simp)).put (es' := [encW g u1 uw]) rfl rfl
      simp only [List.eraseIdx_cons_succ, List.eraseIdx_cons_zero] at o2
      have hcall := mo_write g hg hf b f r.right hrw.2.2.1 (fun y hy => ⟨hrw.2.2.2 y hy, fun hn => hf.neg hmr hy hn⟩) hur (R ++ [(ri : Int)]) W _
        (by simp only [List.length_append, List.length_cons, List.length_nil]; omega) (by simp only [List.length_append]; omega) ⟨u1, uw, by simpa using o2⟩
      simp only [encW, encI] at hcall
      refine CallG.loud (hcall.mono ?_)
      rintro v H2 ⟨ur2, uw2, o3⟩
      simp (disch := omega) only [↓wr, ↓reduceIte, wq, eq_self, ne_eq, implies_true, oneV, intOp, goI, splice, sBuild, fillE, nilB, isNil, Nat.reduceEqDiff, Nat.reduceAdd, Nat.reduceLT, Nat.reduceLeDiff, Int.reduceNeg, Int.reduceToNat, reduceCtorEq, decide_true, decide_false, t0, t7, t8, t9]
      exact ⟨0, by omega, 1, by omega, .inr ⟨rfl, ur2, uw2, by simpa using o3⟩, t0, t7, t8, rfl⟩
    · simp (disch := omega) only [↓wr, ↓reduceIte, wq, eq_self, ne_eq, implies_true, oneV, intOp, goI, splice, sBuild, fillE, nilB, isNil, Nat.reduceEqDiff, Nat.reduceAdd, Nat.reduceLT, Nat.reduceLeDiff, Int.reduceNeg, Int.reduceToNat, reduceCtorEq, decide_true, decide_false, B_least_writer_write_0, t0, t7, t8, t9]
      refine GoB.dec (fun hc => absurd hc (by decide)) (fun _ => ?_)
      simp (disch := omega) only [↓wr, ↓reduceIte, wq, eq_self, ne_eq, implies_true, oneV, intOp, goI, splice, sBuild, fillE, nilB, isNil, Nat.reduceEqDiff, Nat.reduceAdd, Nat.reduceLT, Nat.reduceLeDiff, Int.reduceNeg, Int.reduceToNat, reduceCtorEq, decide_true, decide_false, t0, t7, t8, t9]
      exact ho
end Gv

/-
  The least tree of a nonterminal, the least sentence of symbols: the program answers as the document does.
  Conditions: lists that are no longer than an int says, numbers that are ints; no more than a thousand names.
-/
set_option linter.unusedSimpArgs false
set_option maxRecDepth 100000
namespace Gv
open Go Go.Proofs

def S_least_written : SF := ⟨.seq (.region false [⟨none, [((some 3), .op (.frz (.tmp 0))), ((some 6), .op (.mov (.val (.val (.pointer none))))), ((some 7), .op (.mov (.val (.val (.int .i64 0)))))]⟩]) <|
  .seq (.region true [⟨none, [((some 11), .op (.load (some 4) (.tmp 3))), ((some 12), .op (.load (some 4) (.tmp 3))), ((some 13), .call (.val (.fn 57 [] [])) [(.tmp 12)]), ((some 14), .op (.build [(.emp 1), (.emp 1), (.emp 1), (.val (.int .i64 0)), (.emp 1), (.emp 1), (.emp 1)] [(0, 4, (.tmp 11)), (4, 1, (.tmp 13))])), ((some 15), .op (.box (.tmp 14))), ((some 8), .op (.mov (.tmp 15)))]⟩]) <|
  .seq (.region false [⟨none, [((some 17), .op (.mov (.tmp 1))), ((some 18), .op (.mov (.tmp 8))), ((some 19), .op (.nilc (.tmp 18))), ((some 20), .op (.addr 4 (.tmp 19))), ((some 21), .op (.load none (.tmp 20))), ((some 22), .call (.val (.fn 90 [] [])) [(.tmp 17), (.tmp 21)]), ((some 16), .op (.mov (.tmp 22))), ((some 23), .op (.ext 0 (.tmp 16))), ((some 24), .op (.ext 1 (.tmp 16))), ((some 9), .op (.alloc [(.val (.int .i64 0)), (.val (.int .i64 0)), (.val (.int .i64 0)), (.val (.int .i64 0))])), (none, .op (.store 4 (.tmp 9) (.tmp 23))), ((some 10), .op (.mov (.tmp 24)))]⟩]) <|
  .seq (.block 0 (.seq (.region false [⟨none, [((some 26), .op (.mov (.tmp 10))), ((some 27), .op (.not (.tmp 26))), ((some 25), .op (.mov (.tmp 27)))]⟩]) <|
  .cond (.tmp 25) (.seq (.region false [⟨none, [((some 6), .op (.mov (.val (.val (.pointer none))))), ((some 7), .op (.mov (.val (.val (.int .i64 9)))))]⟩]) <|
  .ret) (.seq (.region false [⟨none, [((some 29), .op (.addr 2 (.tmp 9))), ((some 30), .op (.load none (.tmp 29))), ((some 31), .op (.arith .gtr (.tmp 30) (.val (.val (.int .i64 300))))), ((some 32), .op (.mov (.tmp 31)))]⟩, ⟨(some (32, false)), [((some 33), .op (.addr 3 (.tmp 9))), ((some 34), .op (.load none (.tmp 33))), ((some 35), .op (.mov (.tmp 2))), ((some 36), .op (.arith .gtr (.tmp 34) (.tmp 35)))]⟩, ⟨none, [((some 37), .op (.pick (.tmp 32) (.val (.val (.bool true))) (.tmp 36))), ((some 28), .op (.mov (.tmp 37)))]⟩]) <|
  .cond (.tmp 28) (.seq (.region false [⟨none, [((some 6), .op (.mov (.val (.val (.pointer none))))), ((some 7), .op (.mov (.val (.val (.int .i64 13)))))]⟩]) <|
  .ret) (.skip)))) <|
  .seq (.region false [⟨none, [((some 38), .op (.mov (.tmp 8))), ((some 39), .op (.mov (.tmp 1))), ((some 40), .call (.val (.fn 91 [] [])) [(.tmp 38), (.tmp 39)])]⟩]) <|
  .seq (.region false [⟨none, [((some 41), .op (.mov (.tmp 8))), ((some 6), .op (.mov (.tmp 41))), ((some 7), .op (.mov (.val (.val (.int .i64 0)))))]⟩]) <|
  .ret,
  [.tmp 6, .tmp 7], 42⟩
theorem S_least_written_ok : compF Tryz.prog 59 [3] = some S_least_written := by kernel_rfl

def nilP : V := .val (.pointer none)
/-- What is written answers. -/
def WrtA (g : Gram) (l : List Int) (t : Int) (r : V) (H : View) : Prop :=
  ((sumP (plansG g) l zeroP).2 = false ∧ r = .tup [nilP, gi 9]) ∨
  ((sumP (plansG g) l zeroP).2 = true ∧ (300 < (sumP (plansG g) l zeroP).1.rules ∨ t < (sumP (plansG g) l zeroP).1.terms) ∧ r = .tup [nilP, gi 13]) ∨
  ((sumP (plansG g) l zeroP).2 = true ∧ ¬ (300 < (sumP (plansG g) l zeroP).1.rules ∨ t < (sumP (plansG g) l zeroP).1.terms) ∧ ∃ b, r = .tup [.ptr b 0 0, gi 0] ∧ Wrt g b (treeD g (plansG g) g.nons.length l) (wordD g (plansG g) g.nons.length l) H)

set_option maxHeartbeats 4000000 in
theorem mo_written (g : Gram) (hg : g.Ok) (hf : g.Fine) (l : List Int) (hl : l.length ≤ 50) (hn : ∀ x ∈ l, In64 x ∧ (x < 0 → -1 - x < g.nons.length)) (t : Int) (u : V) (H : View) (hi : HasI H u l) :
    MCall Tryz.prog 59 [.agg (encG g), u, gi t] H (WrtA g l t) := by
  have hsl : Short l := by unfold Short; omega
  have z2 := hf.nons
  have z3 := hf.rules
  refine MCall.of mixed S_least_written_ok ?_
  simp (disch := omega) only [↓wr, ↓reduceIte, wq, eq_self, ne_eq, implies_true, oneV, intOp, goI, splice, sBuild, fillE, nilB, isNil, Nat.reduceEqDiff, Nat.reduceAdd, Nat.reduceLT, Nat.reduceLeDiff, Int.reduceNeg, Int.reduceToNat, reduceCtorEq, decide_true, decide_false, S_least_written, encG, encS]
  refine CallG.pure (pn_plans g hg hf).pure (by kernel_rfl) ?_
  simp (disch := omega) only [↓wr, ↓reduceIte, wq, eq_self, ne_eq, implies_true, oneV, intOp, goI, splice, sBuild, fillE, nilB, isNil, Nat.reduceEqDiff, Nat.reduceAdd, Nat.reduceLT, Nat.reduceLeDiff, Int.reduceNeg, Int.reduceToNat, reduceCtorEq, decide_true, decide_false]
  intro b hb
  have hi1 : HasI (H.set b (.arr 7 [encW g (.emp 1) (.emp 1)])) u l := hi.keep fun id hid => by
    have : id ≠ b := by rintro rfl; exact hid hb
    simp [View.set, this]
  try simp (disch := omega) only [↓wr, ↓reduceIte, wq, eq_self, ne_eq, implies_true, oneV, intOp, goI, splice, sBuild, fillE, nilB, isNil, Nat.reduceEqDiff, Nat.reduceAdd, Nat.reduceLT, Nat.reduceLeDiff, Int.reduceNeg, Int.reduceToNat, reduceCtorEq, decide_true, decide_false]
  have hP : ∀ m, OkP (pAt (plansG g) m) := fun m => stage_ok z3 z2 m
  refine CallG.lendN (pn_sum (plansG g) hP l hsl fun x hx => ⟨(hn x hx).1, fun h => by rw [plans_len]; exact (hn x hx).2 h⟩) (by kernel_rfl) ⟨hi1.lent, Lent.tree (encPs_tree _), trivial⟩ ?_
  have hsz := fun (h : AllK (plansG g) l) => And.intro (tree_size h) (size_tree g g.nons.length l zeroP (up_all h) pos_zero)
  have hok := sumP_ok (plansG g) l zeroP
  have hwt := word_tree hf.right g.nons.length l
  have hps := sumP_pos (fun m => (hP m).1) l zeroP pos_zero
  unfold WrtA
  generalize hsp : sumP (plansG g) l zeroP = sp at hok hps hsz ⊢
  unfold PosP at hps
  simp (disch := omega) only [↓wr, ↓reduceIte, wq, eq_self, ne_eq, implies_true, oneV, intOp, goI, splice, sBuild, fillE, nilB, isNil, Nat.reduceEqDiff, Nat.reduceAdd, Nat.reduceLT, Nat.reduceLeDiff, Int.reduceNeg, Int.reduceToNat, reduceCtorEq, decide_true, decide_false, encPl]
  intro n hn1
  have hnb := (dead_if hn1 arr_live).1
  have hnH := (dead_if hn1 arr_live).2
  try simp (disch := omega) only [↓wr, ↓reduceIte, wq, eq_self, ne_eq, implies_true, oneV, intOp, goI, splice, sBuild, fillE, nilB, isNil, Nat.reduceEqDiff, Nat.reduceAdd, Nat.reduceLT, Nat.reduceLeDiff, Int.reduceNeg, Int.reduceToNat, reduceCtorEq, decide_true, decide_false, encPl]
  refine GoB.split (fun hs => ?_) (fun hs => ?_)
  · have hak := hok.1 hs
    simp (disch := omega) only [↓wr, ↓reduceIte, wq, eq_self, ne_eq, implies_true, oneV, intOp, goI, splice, sBuild, fillE, nilB, isNil, Nat.reduceEqDiff, Nat.reduceAdd, Nat.reduceLT, Nat.reduceLeDiff, Int.reduceNeg, Int.reduceToNat, reduceCtorEq, decide_true, decide_false, encPl]
    refine GoB.dec (fun h3 => ?_) (fun h3 => ?_)
    · simp (disch := omega) only [↓wr, ↓reduceIte, wq, eq_self, ne_eq, implies_true, oneV, intOp, goI, splice, sBuild, fillE, nilB, isNil, Nat.reduceEqDiff, Nat.reduceAdd, Nat.reduceLT, Nat.reduceLeDiff, Int.reduceNeg, Int.reduceToNat, reduceCtorEq, decide_true, decide_false]
      exact .inr (.inl ⟨hs, .inl h3, rfl⟩)
    · simp (disch := omega) only [↓wr, ↓reduceIte, wq, eq_self, ne_eq, implies_true, oneV, intOp, goI, splice, sBuild, fillE, nilB, isNil, Nat.reduceEqDiff, Nat.reduceAdd, Nat.reduceLT, Nat.reduceLeDiff, Int.reduceNeg, Int.reduceToNat, reduceCtorEq, decide_true, decide_false, encPl]
      refine GoB.dec (fun h4 => ?_) (fun h4 => ?_)
      · simp (disch := omega) only [↓wr, ↓reduceIte, wq, eq_self, ne_eq, implies_true, oneV, intOp, goI, splice, sBuild, fillE, nilB, isNil, Nat.reduceEqDiff, Nat.reduceAdd, Nat.reduceLT, Nat.reduceLeDiff, Int.reduceNeg, Int.reduceToNat, reduceCtorEq, decide_true, decide_false]
        exact .inr (.inl ⟨hs, .inr h4, rfl⟩)
      · simp (disch := omega) only [↓wr, ↓reduceIte, wq, eq_self, ne_eq, implies_true, oneV, intOp, goI, splice, sBuild, fillE, nilB, isNil, Nat.reduceEqDiff, Nat.reduceAdd, Nat.reduceLT, Nat.reduceLeDiff, Int.reduceNeg, Int.reduceToNat, reduceCtorEq, decide_true, decide_false, encPl]
        have ho := (Owns.nil (H := H)).new hb 7 [encW g (.emp 1) (.emp 1)]
        have hlt := (hsz hak).1 (by omega)
        have hx := mo_write_any g hg hf b g.nons.length l hsl hn (up_all hak) [] [] (((H.set b (.arr 7 [encW g (.emp 1) (.emp 1)])).set n (.arr 4 [[gi 0, gi 0, gi 0, gi 0]])).set n (.arr 4 [encPl sp.1]))
          (by simp only [List.nil_append]; omega) (by simp only [List.nil_append]; omega)
          ⟨.emp 1, .emp 1, by
            rw [set_set]
            have o2 := ho.fresh (n := n) (o := .arr 4 [encPl sp.1]) (by simp [View.set, hnb, hnH])
            exact ((o2.emp (k := 1) (sz := 1)).emp (k := 1) (sz := 1)).perm (rot3.trans (.swap _ _ _))⟩ u
          (hi1.keep fun id hid => by
            have : id ≠ n := by rintro rfl; simp [View.set, hnb, hnH] at hid
            simp [View.set, this])
        simp only [List.nil_append, encW, encPl] at hx
        refine CallG.loud (hx.mono ?_)
        intro v H1 hw
        simp (disch := omega) only [↓wr, ↓reduceIte, wq, eq_self, ne_eq, implies_true, oneV, intOp, goI, splice, sBuild, fillE, nilB, isNil, Nat.reduceEqDiff, Nat.reduceAdd, Nat.reduceLT, Nat.reduceLeDiff, Int.reduceNeg, Int.reduceToNat, reduceCtorEq, decide_true, decide_false]
        exact .inr (.inr ⟨hs, by omega, b, rfl, hw⟩)
  · simp (disch := omega) only [↓wr, ↓reduceIte, wq, eq_self, ne_eq, implies_true, oneV, intOp, goI, splice, sBuild, fillE, nilB, isNil, Nat.reduceEqDiff, Nat.reduceAdd, Nat.reduceLT, Nat.reduceLeDiff, Int.reduceNeg, Int.reduceToNat, reduceCtorEq, decide_true, decide_false]
    exact .inl ⟨hs, rfl⟩

def S_least_Tree : SF := ⟨.seq (.region false [⟨none, [((some 2), .op (.frz (.tmp 0))), ((some 4), .op (.mov (.val (.emp 1)))), ((some 5), .op (.mov (.val (.val (.int .i64 0)))))]⟩]) <|
  .seq (.seq (.region false [⟨none, [((some 8), .op (.load (some 4) (.tmp 2))), ((some 9), .call (.val (.fn 41 [] [])) [(.tmp 8)]), ((some 10), .op (.not (.tmp 9))), ((some 11), .op (.mov (.tmp 10)))]⟩, ⟨(some (11, false)), [((some 12), .op (.mov (.tmp 1))), ((some 13), .op (.arith .lss (.tmp 12) (.val (.val (.int .i64 0)))))]⟩, ⟨none, [((some 14), .op (.pick (.tmp 11) (.val (.val (.bool true))) (.tmp 13))), ((some 15), .op (.mov (.tmp 14)))]⟩, ⟨(some (15, false)), [((some 16), .op (.mov (.tmp 1))), ((some 17), .op (.addr 1 (.tmp 2))), ((some 18), .op (.load none (.tmp 17))), ((some 19), .op (.len (.tmp 18))), ((some 20), .op (.arith .geq (.tmp 16) (.tmp 19)))]⟩, ⟨none, [((some 21), .op (.pick (.tmp 15) (.val (.val (.bool true))) (.tmp 20)))]⟩]) <|
  .cond (.tmp 21) (.seq (.region false [⟨none, [((some 4), .op (.mov (.val (.emp 1)))), ((some 5), .op (.mov (.val (.val (.int .i64 1)))))]⟩]) <|
  .ret) (.skip)) <|
  .seq (.region false [⟨none, [((some 23), .op (.load (some 4) (.tmp 2))), ((some 24), .op (.mov (.tmp 1))), ((some 25), .op (.arith .sub (.val (.val (.int .i64 (-1)))) (.tmp 24))), ((some 26), .op (.bslice 1 1 [(.val (.int .i64 0))] [(0, (.tmp 25))])), ((some 27), .call (.val (.fn 59 [] [])) [(.tmp 23), (.tmp 26), (.val (.val (.int .i64 1048576)))]), ((some 22), .op (.mov (.tmp 27))), ((some 28), .op (.ext 0 (.tmp 22))), ((some 29), .op (.ext 1 (.tmp 22))), ((some 6), .op (.mov (.tmp 28))), ((some 7), .op (.mov (.tmp 29)))]⟩]) <|
  .seq (.seq (.region false [⟨none, [((some 30), .op (.mov (.tmp 7))), ((some 31), .op (.arith .neq (.tmp 30) (.val (.val (.int .i64 0)))))]⟩]) <|
  .cond (.tmp 31) (.seq (.region false [⟨none, [((some 32), .op (.mov (.tmp 7))), ((some 4), .op (.mov (.val (.emp 1)))), ((some 5), .op (.mov (.tmp 32)))]⟩]) <|
  .ret) (.skip)) <|
  .seq (.region false [⟨none, [((some 33), .op (.mov (.tmp 6))), ((some 34), .op (.nilc (.tmp 33))), ((some 35), .op (.addr 5 (.tmp 34))), ((some 36), .op (.load none (.tmp 35))), ((some 4), .op (.mov (.tmp 36))), ((some 5), .op (.mov (.val (.val (.int .i64 0)))))]⟩]) <|
  .ret,
  [.tmp 4, .tmp 5], 37⟩
theorem S_least_Tree_ok : compF Tryz.prog 36 [2] = some S_least_Tree := by kernel_rfl

def S_least_Word_1 : SF := ⟨.seq (.region false [⟨none, [((some 3), .op (.mov (.val (.val (.bool false)))))]⟩]) <|
  .seq (.region false [⟨none, [((some 4), .op (.load (some 4) (.tmp 1))), ((some 5), .op (.mov (.tmp 0))), ((some 6), .call (.val (.fn 64 [] [])) [(.tmp 4), (.tmp 5)]), ((some 7), .op (.not (.tmp 6))), ((some 3), .op (.mov (.tmp 7)))]⟩]) <|
  .ret,
  [.tmp 3], 8⟩
theorem S_least_Word_1_ok : compF Tryz.prog 63 [] = some S_least_Word_1 := by kernel_rfl

def S_least_Word : SF := ⟨.seq (.region false [⟨none, [((some 2), .op (.frz (.tmp 0))), ((some 4), .op (.mov (.val (.emp 1)))), ((some 5), .op (.mov (.val (.val (.int .i64 0)))))]⟩]) <|
  .seq (.seq (.region false [⟨none, [((some 8), .op (.load (some 4) (.tmp 2))), ((some 9), .call (.val (.fn 41 [] [])) [(.tmp 8)]), ((some 10), .op (.not (.tmp 9))), ((some 11), .op (.mov (.tmp 10)))]⟩, ⟨(some (11, false)), [((some 12), .op (.mov (.tmp 1))), ((some 13), .op (.mkfn 63 [] [(.tmp 2)])), ((some 14), .call (.val (.fn 62 [] [])) [(.tmp 12), (.tmp 13)])]⟩, ⟨none, [((some 15), .op (.pick (.tmp 11) (.val (.val (.bool true))) (.tmp 14)))]⟩]) <|
  .cond (.tmp 15) (.seq (.region false [⟨none, [((some 4), .op (.mov (.val (.emp 1)))), ((some 5), .op (.mov (.val (.val (.int .i64 1)))))]⟩]) <|
  .ret) (.skip)) <|
  .seq (.region false [⟨none, [((some 17), .op (.load (some 4) (.tmp 2))), ((some 18), .op (.mov (.tmp 1))), ((some 19), .call (.val (.fn 59 [] [])) [(.tmp 17), (.tmp 18), (.val (.val (.int .i64 60)))]), ((some 16), .op (.mov (.tmp 19))), ((some 20), .op (.ext 0 (.tmp 16))), ((some 21), .op (.ext 1 (.tmp 16))), ((some 6), .op (.mov (.tmp 20))), ((some 7), .op (.mov (.tmp 21)))]⟩]) <|
  .seq (.seq (.region false [⟨none, [((some 22), .op (.mov (.tmp 7))), ((some 23), .op (.arith .neq (.tmp 22) (.val (.val (.int .i64 0)))))]⟩]) <|
  .cond (.tmp 23) (.seq (.region false [⟨none, [((some 24), .op (.mov (.tmp 7))), ((some 4), .op (.mov (.val (.emp 1)))), ((some 5), .op (.mov (.tmp 24)))]⟩]) <|
  .ret) (.skip)) <|
  .seq (.region false [⟨none, [((some 25), .op (.mov (.tmp 6))), ((some 26), .op (.nilc (.tmp 25))), ((some 27), .op (.addr 6 (.tmp 26))), ((some 28), .op (.load none (.tmp 27))), ((some 4), .op (.mov (.tmp 28))), ((some 5), .op (.mov (.val (.val (.int .i64 0)))))]⟩]) <|
  .ret,
  [.tmp 4, .tmp 5], 29⟩
theorem S_least_Word_ok : compF Tryz.prog 38 [2] = some S_least_Word := by kernel_rfl

set_option maxHeartbeats 4000000 in
theorem pn_lTree (g : Gram) (hg : g.Ok) (hs : g.Small) (n : Int) (hn : In64 n) : PNew Tryz.prog 36 [.agg (encG g), gi n] (outA (treeA g n)) := by
  have hsh := hg.nons
  unfold Short at hsh
  unfold In64 at hn
  refine PNew.of (gi_trees g n) ?_
  refine MCall.of mixed S_least_Tree_ok ?_
  simp (disch := omega) only [↓wr, ↓reduceIte, wq, eq_self, ne_eq, implies_true, oneV, intOp, goI, splice, sBuild, fillE, nilB, isNil, Nat.reduceEqDiff, Nat.reduceAdd, Nat.reduceLT, Nat.reduceLeDiff, Int.reduceNeg, Int.reduceToNat, reduceCtorEq, decide_true, decide_false, S_least_Tree, encG, encS]
  refine CallG.pure (pc_cRight g hg hs.names) (by kernel_rfl) ?_
  have bad : ∀ h' : Heap, (right09 g && decide (0 ≤ n) && decide (n < g.nons.length)) = false → FrN h' (.tup [.emp 1, gi 1]) (outA (treeA g n)) := fun h' e => by
    unfold treeA; rw [if_neg (by rw [e]; simp)]; exact frn_outA (x := ([], 1)) (.emp _)
  repeat' (first | (refine GoB.dec (fun _ => ?_) (fun _ => ?_)) | (refine GoB.eq (fun _ => ?_) (fun _ => ?_)) | (refine GoB.ne (fun _ => ?_) (fun _ => ?_)) | (refine GoB.split (fun _ => ?_) (fun _ => ?_)) | (simp (disch := omega) only [↓wr, ↓reduceIte, wq, eq_self, ne_eq, implies_true, oneV, intOp, goI, splice, sBuild, fillE, nilB, isNil, Nat.reduceEqDiff, Nat.reduceAdd, Nat.reduceLT, Nat.reduceLeDiff, Int.reduceNeg, Int.reduceToNat, reduceCtorEq, decide_true, decide_false, encG, encS]))
  all_goals first
    | (intro h' _; refine bad h' ?_; simp only [Bool.and_eq_false_iff, decide_eq_false_iff_not]; first | (left; left; assumption) | (left; right; omega) | (right; omega))
    | skip
  have hr : right09 g = true := by assumption
  have h0 : 0 ≤ n := by omega
  have h1 : n < g.nons.length := by omega
  have hf := right09_fine hr
  have hA : treeA g n = _ := if_pos (by simp [hr, h0, h1])
  intro m
  try simp (disch := omega) only [↓wr, ↓reduceIte, wq, eq_self, ne_eq, implies_true, oneV, intOp, goI, splice, sBuild, fillE, nilB, isNil, Nat.reduceEqDiff, Nat.reduceAdd, Nat.reduceLT, Nat.reduceLeDiff, Int.reduceNeg, Int.reduceToNat, reduceCtorEq, decide_true, decide_false, encG, encS]
  have hw := mo_written g hg hf [-1 - n] (by simp) (fun x hx => by simp at hx; subst hx; exact ⟨by unfold In64; omega, fun _ => by omega⟩) 1048576 (.sl m 0 1 1) (View.set (fun _ => .dead) m (.arr 1 [[gi (-1 - n)]])) (.inr ⟨m, -1 - n, rfl, by omega, rfl, by simp [View.set]⟩)
  simp only [encG, encS] at hw
  refine CallG.loud (hw.mono ?_)
  have hb := noPlan_sum (plansG g) [-1 - n] zeroP
  have e : nonN (-1 - n) = n.toNat := by unfold nonN; omega
  simp only [noPlan, List.any_cons, List.any_nil, Bool.or_false, decide_eq_true (show -1 - n < 0 by omega), Bool.true_and, e] at hb
  have hpos : PosP (pAt (plansG g) n.toNat) := stage_pos g _ _
  unfold PosP at hpos
  rintro r H1 (⟨h2, rfl⟩ | ⟨h2, h3, rfl⟩ | ⟨h2, h3, b, rfl, ur, uw, ho⟩)
  · simp (disch := omega) only [↓wr, ↓reduceIte, wq, eq_self, ne_eq, implies_true, oneV, intOp, goI, splice, sBuild, fillE, nilB, isNil, Nat.reduceEqDiff, Nat.reduceAdd, Nat.reduceLT, Nat.reduceLeDiff, Int.reduceNeg, Int.reduceToNat, reduceCtorEq, decide_true, decide_false, nilP]
    refine GoB.ne (fun _ => ?_) (fun hc => absurd hc (by decide))
    simp (disch := omega) only [↓wr, ↓reduceIte, wq, eq_self, ne_eq, implies_true, oneV, intOp, goI, splice, sBuild, fillE, nilB, isNil, Nat.reduceEqDiff, Nat.reduceAdd, Nat.reduceLT, Nat.reduceLeDiff, Int.reduceNeg, Int.reduceToNat, reduceCtorEq, decide_true, decide_false, nilP]
    rw [hb] at h2
    rw [if_pos (by simpa using h2)] at hA
    intro h' _
    rw [hA]; exact frn_outA (x := ([], 9)) (.emp _)
  · simp (disch := omega) only [↓wr, ↓reduceIte, wq, eq_self, ne_eq, implies_true, oneV, intOp, goI, splice, sBuild, fillE, nilB, isNil, Nat.reduceEqDiff, Nat.reduceAdd, Nat.reduceLT, Nat.reduceLeDiff, Int.reduceNeg, Int.reduceToNat, reduceCtorEq, decide_true, decide_false, nilP]
    refine GoB.ne (fun _ => ?_) (fun hc => absurd hc (by decide))
    simp (disch := omega) only [↓wr, ↓reduceIte, wq, eq_self, ne_eq, implies_true, oneV, intOp, goI, splice, sBuild, fillE, nilB, isNil, Nat.reduceEqDiff, Nat.reduceAdd, Nat.reduceLT, Nat.reduceLeDiff, Int.reduceNeg, Int.reduceToNat, reduceCtorEq, decide_true, decide_false, nilP]
    rw [hb] at h2
    have hk : ¬ (pAt (plansG g) n.toNat).rule < 0 := by simpa using h2
    obtain ⟨s1, s2⟩ := sum_one h0 (show Known (plansG g) n.toNat by unfold Known; omega)
    rw [if_neg hk, if_pos (by omega)] at hA
    intro h' _
    rw [hA]; exact frn_outA (x := ([], 13)) (.emp _)
  · rw [hb] at h2
    have hk : ¬ (pAt (plansG g) n.toNat).rule < 0 := by simpa using h2
    obtain ⟨s1, s2⟩ := sum_one h0 (show Known (plansG g) n.toNat by unfold Known; omega)
    rw [if_neg hk, if_neg (by omega)] at hA
    have hbo := ho.is 0 rfl (by simp)
    simp (disch := omega) only [↓wr, ↓reduceIte, wq, eq_self, ne_eq, implies_true, oneV, intOp, goI, splice, sBuild, fillE, nilB, isNil, Nat.reduceEqDiff, Nat.reduceAdd, Nat.reduceLT, Nat.reduceLeDiff, Int.reduceNeg, Int.reduceToNat, reduceCtorEq, decide_true, decide_false, hbo, encW]
    refine GoB.ne (fun hc => absurd rfl hc) (fun _ => ?_)
    simp (disch := omega) only [↓wr, ↓reduceIte, wq, eq_self, ne_eq, implies_true, oneV, intOp, goI, splice, sBuild, fillE, nilB, isNil, Nat.reduceEqDiff, Nat.reduceAdd, Nat.reduceLT, Nat.reduceLeDiff, Int.reduceNeg, Int.reduceToNat, reduceCtorEq, decide_true, decide_false, hbo, encW]
    intro h' hh
    rw [hA]; exact frn_outA (x := (_, 0)) (frn_ints (by rw [hh]; exact ho.own 1 rfl))

theorem pc_lWord1 (g : Gram) (x : Int) (hx : In64 x) : PCall Tryz.prog 63 [gi x, .fptr (encG g) 0] (gb (!hasG g x)) := by
  refine PCall.val (by
    intro v hv; simp at hv
    rcases hv with rfl | rfl
    · exact .val _
    · exact fptr_tree (encG_tree g)) fun H => ?_
  refine MCall.of mixed S_least_Word_1_ok ?_
  simp (disch := omega) only [↓wr, ↓reduceIte, wq, eq_self, ne_eq, implies_true, oneV, intOp, goI, splice, sBuild, fillE, nilB, isNil, Nat.reduceEqDiff, Nat.reduceAdd, Nat.reduceLT, Nat.reduceLeDiff, Int.reduceNeg, Int.reduceToNat, reduceCtorEq, decide_true, decide_false, S_least_Word_1, encG, encS]
  refine CallG.pure (pc_cHas g x hx) (by kernel_rfl) ?_
  simp (disch := omega) only [↓wr, ↓reduceIte, wq, eq_self, ne_eq, implies_true, oneV, intOp, goI, splice, sBuild, fillE, nilB, isNil, Nat.reduceEqDiff, Nat.reduceAdd, Nat.reduceLT, Nat.reduceLeDiff, Int.reduceNeg, Int.reduceToNat, reduceCtorEq, decide_true, decide_false]

set_option maxHeartbeats 4000000 in
theorem pn_lWord (g : Gram) (hg : g.Ok) (hs : g.Small) (l : List Int) (hl : l.length ≤ 50) (hn : ∀ x ∈ l, In64 x) : PNew Tryz.prog 38 [.agg (encG g), encI l] (outA (wordA g l)) := by
  have hsl : Short l := by unfold Short; omega
  refine PNew.of (by
    intro v hv; simp at hv
    rcases hv with rfl | rfl
    · exact tree_agg _ (encG_tree g)
    · exact encI_tree l) ?_
  refine MCall.of mixed S_least_Word_ok ?_
  simp (disch := omega) only [↓wr, ↓reduceIte, wq, eq_self, ne_eq, implies_true, oneV, intOp, goI, splice, sBuild, fillE, nilB, isNil, Nat.reduceEqDiff, Nat.reduceAdd, Nat.reduceLT, Nat.reduceLeDiff, Int.reduceNeg, Int.reduceToNat, reduceCtorEq, decide_true, decide_false, S_least_Word, encG, encS]
  refine CallG.pure (pc_cRight g hg hs.names) (by kernel_rfl) ?_
  have bad : ∀ h' : Heap, (right09 g && l.all (hasG g)) = false → FrN h' (.tup [.emp 1, gi 1]) (outA (wordA g l)) := fun h' e => by
    unfold wordA; rw [if_neg (by rw [e]; simp)]; exact frn_outA (x := ([], 1)) (.emp _)
  have hcf := pc_ContainsFuncI l hsl 63 [.fptr (encG g) 0] (by intro v hv; simp at hv; subst hv; exact fptr_tree (encG_tree g)) (fun x => !hasG g x) (fun x hx => pc_lWord1 g x (hn x hx)) (by kernel_rfl)
  simp only [encG, encS] at hcf
  simp (disch := omega) only [↓wr, ↓reduceIte, wq, eq_self, ne_eq, implies_true, oneV, intOp, goI, splice, sBuild, fillE, nilB, isNil, Nat.reduceEqDiff, Nat.reduceAdd, Nat.reduceLT, Nat.reduceLeDiff, Int.reduceNeg, Int.reduceToNat, reduceCtorEq, decide_true, decide_false, encG, encS]
  refine GoB.split (fun hr => ?_) (fun hr => ?_)
  · simp (disch := omega) only [↓wr, ↓reduceIte, wq, eq_self, ne_eq, implies_true, oneV, intOp, goI, splice, sBuild, fillE, nilB, isNil, Nat.reduceEqDiff, Nat.reduceAdd, Nat.reduceLT, Nat.reduceLeDiff, Int.reduceNeg, Int.reduceToNat, reduceCtorEq, decide_true, decide_false, encG, encS]
    refine CallG.pure hcf (by kernel_rfl) ?_
    have hany : l.any (fun x => !hasG g x) = !l.all (hasG g) := by rw [List.not_all_eq_any_not]
    rw [hany]
    simp (disch := omega) only [↓wr, ↓reduceIte, wq, eq_self, ne_eq, implies_true, oneV, intOp, goI, splice, sBuild, fillE, nilB, isNil, Nat.reduceEqDiff, Nat.reduceAdd, Nat.reduceLT, Nat.reduceLeDiff, Int.reduceNeg, Int.reduceToNat, reduceCtorEq, decide_true, decide_false, encG, encS]
    refine GoB.split (fun hall => ?_) (fun hall => ?_)
    · have hf := right09_fine hr
      have hA : wordA g l = _ := if_pos (by rw [hr, hall]; rfl)
      simp (disch := omega) only [↓wr, ↓reduceIte, wq, eq_self, ne_eq, implies_true, oneV, intOp, goI, splice, sBuild, fillE, nilB, isNil, Nat.reduceEqDiff, Nat.reduceAdd, Nat.reduceLT, Nat.reduceLeDiff, Int.reduceNeg, Int.reduceToNat, reduceCtorEq, decide_true, decide_false, encG, encS]
      have hin : ∀ x ∈ l, In64 x ∧ (x < 0 → -1 - x < g.nons.length) := fun x hx => ⟨hn x hx, fun hx0 => by
        have := List.all_eq_true.1 hall x hx
        unfold hasG at this
        rw [if_neg (by omega)] at this
        simpa using this⟩
      have hw := mo_written g hg hf l hl hin 60 (encI l) (fun _ => .dead) (.inl rfl)
      simp only [encG, encS] at hw
      refine CallG.loud (hw.mono ?_)
      rintro r H1 (⟨h2, rfl⟩ | ⟨h2, h3, rfl⟩ | ⟨h2, h3, b, rfl, ur, uw, ho⟩)
      · simp (disch := omega) only [↓wr, ↓reduceIte, wq, eq_self, ne_eq, implies_true, oneV, intOp, goI, splice, sBuild, fillE, nilB, isNil, Nat.reduceEqDiff, Nat.reduceAdd, Nat.reduceLT, Nat.reduceLeDiff, Int.reduceNeg, Int.reduceToNat, reduceCtorEq, decide_true, decide_false, nilP]
        refine GoB.ne (fun _ => ?_) (fun hc => absurd hc (by decide))
        simp (disch := omega) only [↓wr, ↓reduceIte, wq, eq_self, ne_eq, implies_true, oneV, intOp, goI, splice, sBuild, fillE, nilB, isNil, Nat.reduceEqDiff, Nat.reduceAdd, Nat.reduceLT, Nat.reduceLeDiff, Int.reduceNeg, Int.reduceToNat, reduceCtorEq, decide_true, decide_false, nilP]
        rw [if_pos h2] at hA
        intro h' _
        rw [hA]; exact frn_outA (x := ([], 9)) (.emp _)
      · simp (disch := omega) only [↓wr, ↓reduceIte, wq, eq_self, ne_eq, implies_true, oneV, intOp, goI, splice, sBuild, fillE, nilB, isNil, Nat.reduceEqDiff, Nat.reduceAdd, Nat.reduceLT, Nat.reduceLeDiff, Int.reduceNeg, Int.reduceToNat, reduceCtorEq, decide_true, decide_false, nilP]
        refine GoB.ne (fun _ => ?_) (fun hc => absurd hc (by decide))
        simp (disch := omega) only [↓wr, ↓reduceIte, wq, eq_self, ne_eq, implies_true, oneV, intOp, goI, splice, sBuild, fillE, nilB, isNil, Nat.reduceEqDiff, Nat.reduceAdd, Nat.reduceLT, Nat.reduceLeDiff, Int.reduceNeg, Int.reduceToNat, reduceCtorEq, decide_true, decide_false, nilP]
        rw [if_neg (by rw [h2]; simp), if_pos h3] at hA
        intro h' _
        rw [hA]; exact frn_outA (x := ([], 13)) (.emp _)
      · rw [if_neg (by rw [h2]; simp), if_neg h3] at hA
        have hbo := ho.is 0 rfl (by simp)
        simp (disch := omega) only [↓wr, ↓reduceIte, wq, eq_self, ne_eq, implies_true, oneV, intOp, goI, splice, sBuild, fillE, nilB, isNil, Nat.reduceEqDiff, Nat.reduceAdd, Nat.reduceLT, Nat.reduceLeDiff, Int.reduceNeg, Int.reduceToNat, reduceCtorEq, decide_true, decide_false, hbo, encW]
        refine GoB.ne (fun hc => absurd rfl hc) (fun _ => ?_)
        simp (disch := omega) only [↓wr, ↓reduceIte, wq, eq_self, ne_eq, implies_true, oneV, intOp, goI, splice, sBuild, fillE, nilB, isNil, Nat.reduceEqDiff, Nat.reduceAdd, Nat.reduceLT, Nat.reduceLeDiff, Int.reduceNeg, Int.reduceToNat, reduceCtorEq, decide_true, decide_false, hbo, encW]
        intro h' hh
        rw [hA]; exact frn_outA (x := (_, 0)) (frn_ints (by rw [hh]; exact ho.own 2 rfl))
    · simp (disch := omega) only [↓wr, ↓reduceIte, wq, eq_self, ne_eq, implies_true, oneV, intOp, goI, splice, sBuild, fillE, nilB, isNil, Nat.reduceEqDiff, Nat.reduceAdd, Nat.reduceLT, Nat.reduceLeDiff, Int.reduceNeg, Int.reduceToNat, reduceCtorEq, decide_true, decide_false, encG, encS]
      intro h' _
      exact bad h' (by rw [hall, Bool.and_false])
  · simp (disch := omega) only [↓wr, ↓reduceIte, wq, eq_self, ne_eq, implies_true, oneV, intOp, goI, splice, sBuild, fillE, nilB, isNil, Nat.reduceEqDiff, Nat.reduceAdd, Nat.reduceLT, Nat.reduceLeDiff, Int.reduceNeg, Int.reduceToNat, reduceCtorEq, decide_true, decide_false, encG, encS]
    intro h' _
    exact bad h' (by rw [hr, Bool.false_and])
end Gv

/-
  What the reader answers at the fixed texts of the ones on least trees.
  Conditions: none.
-/
set_option linter.unusedSimpArgs false
set_option maxRecDepth 100000
namespace Gv
open Go Go.Proofs
def text3 : List Int := [37, 37, 32, 115, 32, 58, 32, 115, 32, 39, 97, 39, 32, 124, 32, 116, 32, 59, 32, 116, 32, 58, 32, 39, 98, 39, 32, 59]
def text4 : List Int := [37, 37, 32, 97, 32, 58, 32, 98, 32, 98, 32, 98, 32, 98, 32, 98, 32, 98, 32, 59, 32, 98, 32, 58, 32, 99, 32, 99, 32, 99, 32, 99, 32, 99, 32, 99, 32, 59, 32, 99, 32, 58, 32, 100, 32, 100, 32, 100, 32, 100, 32, 100, 32, 100, 32, 59, 32, 100, 32, 58, 32, 39, 100, 39, 32, 59]
def gram3 : Gram := ⟨[⟨⟨#[39, 97, 39]⟩, 0, 0⟩, ⟨⟨#[39, 98, 39]⟩, 0, 0⟩], [⟨#[115]⟩, ⟨#[116]⟩], [⟨0, [(-1), 0], 0⟩, ⟨0, [(-2)], (-1)⟩, ⟨1, [1], 1⟩], 0⟩
def gram4 : Gram := ⟨[⟨⟨#[39, 100, 39]⟩, 0, 0⟩], [⟨#[97]⟩, ⟨#[98]⟩, ⟨#[99]⟩, ⟨#[100]⟩], [⟨0, [(-2), (-2), (-2), (-2), (-2), (-2)], (-1)⟩, ⟨1, [(-3), (-3), (-3), (-3), (-3), (-3)], (-1)⟩, ⟨2, [(-4), (-4), (-4), (-4), (-4), (-4)], (-1)⟩, ⟨3, [0], 0⟩], 0⟩
theorem read3 : PNew Tryz.prog 40 [encY text3] (readOut gram3) := read_of (by kernel_rfl)
theorem read4 : PNew Tryz.prog 40 [encY text4] (readOut gram4) := read_of (by kernel_rfl)

theorem gram3_ok : gram3.Ok := by
  refine ⟨by unfold Short; decide, by unfold Short; decide, by unfold Short; decide, by unfold In64; decide, ?_, ?_⟩
  · intro t ht; simp [gram3] at ht; rcases ht with rfl | rfl <;> unfold In64 <;> decide
  · intro r hr; simp [gram3] at hr; rcases hr with rfl | rfl | rfl <;> unfold In64 Short <;> decide
theorem gram4_ok : gram4.Ok := by
  refine ⟨by unfold Short; decide, by unfold Short; decide, by unfold Short; decide, by unfold In64; decide, ?_, ?_⟩
  · intro t ht; simp [gram4] at ht; rcases ht with rfl; unfold In64; decide
  · intro r hr; simp [gram4] at hr; rcases hr with rfl | rfl | rfl | rfl <;> unfold In64 Short <;> decide
theorem gram3_small : gram3.Small := ⟨by decide⟩
theorem gram4_small : gram4.Small := ⟨by decide⟩
theorem g3r : right09 gram3 = true := by kernel_rfl
theorem g3h : hgts (plansG gram3) = [2, 1] := by kernel_rfl
theorem g3u : rulesP gram3 = [1, 2] := by kernel_rfl
theorem g3t : treeA gram3 0 = ([1, 2], 0) := by kernel_rfl
theorem g3w : wordA gram3 [(-1), 0] = ([1, 0], 0) := by kernel_rfl
theorem g4t : (treeA gram4 0).2 = 0 := by kernel_rfl
theorem g4w : wordA gram4 [(-2), (-2)] = ([], 13) := by kernel_rfl
end Gv

/-
  The fixed fact of the laws on least trees.
  Conditions: none.
-/
set_option linter.unusedSimpArgs false
set_option maxRecDepth 100000
namespace Gv
open Go Go.Proofs

/-- A call after which only so much is known of the store. -/
theorem CallG.pureAt {P : Program} {q : Bool} {f : FuncId} {H : View} {vs : List V} {K : V → View → Prop} {v : Veil (H, K)} {t : V} (Φ : View → Prop) (hc : PCall P f vs t) (hok : calleeOk P f = true) (hΦ : Φ H) (hk : ∀ H, Φ H → K t H) : CallG P q f vs H K v :=
  CallG.pure hc hok (hk H hΦ)
theorem CallG.lendNAt {P : Program} {q : Bool} {f : FuncId} {H : View} {vs ts : List V} {K : V → View → Prop} {v : Veil (H, K)} {t : V} (Φ : View → Prop) (hc : PNew P f ts t) (hok : calleeOk P f = true) (hl : Lents H vs ts) (hΦ : Φ H) (hk : ∀ H, Φ H → K t H) : CallG P q f vs H K v :=
  CallG.lendN hc hok hl (hk H hΦ)

def S_gerundlaw14_alive : SF := ⟨.seq (.region false [⟨none, [((some 0), .op (.mov (.val (.val (.bool false)))))]⟩]) <|
  .seq (.region false [⟨none, [((some 16), .op (.bslice 28 1 [(.val (.int .u8 0))] [(0, (.val (.val (.int .u8 37)))), (1, (.val (.val (.int .u8 37)))), (2, (.val (.val (.int .u8 32)))), (3, (.val (.val (.int .u8 115)))), (4, (.val (.val (.int .u8 32)))), (5, (.val (.val (.int .u8 58)))), (6, (.val (.val (.int .u8 32)))), (7, (.val (.val (.int .u8 115)))), (8, (.val (.val (.int .u8 32)))), (9, (.val (.val (.int .u8 39)))), (10, (.val (.val (.int .u8 97)))), (11, (.val (.val (.int .u8 39)))), (12, (.val (.val (.int .u8 32)))), (13, (.val (.val (.int .u8 124)))), (14, (.val (.val (.int .u8 32)))), (15, (.val (.val (.int .u8 116)))), (16, (.val (.val (.int .u8 32)))), (17, (.val (.val (.int .u8 59)))), (18, (.val (.val (.int .u8 32)))), (19, (.val (.val (.int .u8 116)))), (20, (.val (.val (.int .u8 32)))), (21, (.val (.val (.int .u8 58)))), (22, (.val (.val (.int .u8 32)))), (23, (.val (.val (.int .u8 39)))), (24, (.val (.val (.int .u8 98)))), (25, (.val (.val (.int .u8 39)))), (26, (.val (.val (.int .u8 32)))), (27, (.val (.val (.int .u8 59))))])), ((some 17), .op (.old (.convert 53 53 (.tmp 16)) 53)), ((some 18), .call (.val (.fn 40 [] [])) [(.tmp 17)]), ((some 15), .op (.mov (.tmp 18))), ((some 19), .op (.ext 0 (.tmp 15))), ((some 20), .op (.ext 1 (.tmp 15))), ((some 21), .op (.ext 2 (.tmp 15))), ((some 1), .op (.alloc [(.emp 1), (.emp 1), (.emp 1), (.val (.int .i64 0))])), (none, .op (.store 4 (.tmp 1) (.tmp 19))), ((some 2), .op (.mov (.tmp 20))), ((some 3), .op (.mov (.tmp 21)))]⟩]) <|
  .seq (.region false [⟨none, [((some 23), .op (.bslice 66 1 [(.val (.int .u8 0))] [(0, (.val (.val (.int .u8 37)))), (1, (.val (.val (.int .u8 37)))), (2, (.val (.val (.int .u8 32)))), (3, (.val (.val (.int .u8 97)))), (4, (.val (.val (.int .u8 32)))), (5, (.val (.val (.int .u8 58)))), (6, (.val (.val (.int .u8 32)))), (7, (.val (.val (.int .u8 98)))), (8, (.val (.val (.int .u8 32)))), (9, (.val (.val (.int .u8 98)))), (10, (.val (.val (.int .u8 32)))), (11, (.val (.val (.int .u8 98)))), (12, (.val (.val (.int .u8 32)))), (13, (.val (.val (.int .u8 98)))), (14, (.val (.val (.int .u8 32)))), (15, (.val (.val (.int .u8 98)))), (16, (.val (.val (.int .u8 32)))), (17, (.val (.val (.int .u8 98)))), (18, (.val (.val (.int .u8 32)))), (19, (.val (.val (.int .u8 59)))), (20, (.val (.val (.int .u8 32)))), (21, (.val (.val (.int .u8 98)))), (22, (.val (.val (.int .u8 32)))), (23, (.val (.val (.int .u8 58)))), (24, (.val (.val (.int .u8 32)))), (25, (.val (.val (.int .u8 99)))), (26, (.val (.val (.int .u8 32)))), (27, (.val (.val (.int .u8 99)))), (28, (.val (.val (.int .u8 32)))), (29, (.val (.val (.int .u8 99)))), (30, (.val (.val (.int .u8 32)))), (31, (.val (.val (.int .u8 99)))), (32, (.val (.val (.int .u8 32)))), (33, (.val (.val (.int .u8 99)))), (34, (.val (.val (.int .u8 32)))), (35, (.val (.val (.int .u8 99)))), (36, (.val (.val (.int .u8 32)))), (37, (.val (.val (.int .u8 59)))), (38, (.val (.val (.int .u8 32)))), (39, (.val (.val (.int .u8 99)))), (40, (.val (.val (.int .u8 32)))), (41, (.val (.val (.int .u8 58)))), (42, (.val (.val (.int .u8 32)))), (43, (.val (.val (.int .u8 100)))), (44, (.val (.val (.int .u8 32)))), (45, (.val (.val (.int .u8 100)))), (46, (.val (.val (.int .u8 32)))), (47, (.val (.val (.int .u8 100)))), (48, (.val (.val (.int .u8 32)))), (49, (.val (.val (.int .u8 100)))), (50, (.val (.val (.int .u8 32)))), (51, (.val (.val (.int .u8 100)))), (52, (.val (.val (.int .u8 32)))), (53, (.val (.val (.int .u8 100)))), (54, (.val (.val (.int .u8 32)))), (55, (.val (.val (.int .u8 59)))), (56, (.val (.val (.int .u8 32)))), (57, (.val (.val (.int .u8 100)))), (58, (.val (.val (.int .u8 32)))), (59, (.val (.val (.int .u8 58)))), (60, (.val (.val (.int .u8 32)))), (61, (.val (.val (.int .u8 39)))), (62, (.val (.val (.int .u8 100)))), (63, (.val (.val (.int .u8 39)))), (64, (.val (.val (.int .u8 32)))), (65, (.val (.val (.int .u8 59))))])), ((some 24), .op (.old (.convert 53 53 (.tmp 23)) 53)), ((some 25), .call (.val (.fn 40 [] [])) [(.tmp 24)]), ((some 22), .op (.mov (.tmp 25))), ((some 26), .op (.ext 0 (.tmp 22))), ((some 27), .op (.ext 1 (.tmp 22))), ((some 28), .op (.ext 2 (.tmp 22))), ((some 4), .op (.alloc [(.emp 1), (.emp 1), (.emp 1), (.val (.int .i64 0))])), (none, .op (.store 4 (.tmp 4) (.tmp 26))), ((some 5), .op (.mov (.tmp 27))), ((some 6), .op (.mov (.tmp 28)))]⟩]) <|
  .seq (.region false [⟨none, [((some 30), .op (.load (some 4) (.tmp 1))), ((some 31), .call (.val (.fn 36 [] [])) [(.tmp 30), (.val (.val (.int .i64 0)))]), ((some 29), .op (.mov (.tmp 31))), ((some 32), .op (.ext 0 (.tmp 29))), ((some 33), .op (.ext 1 (.tmp 29))), ((some 7), .op (.mov (.tmp 32))), ((some 8), .op (.mov (.tmp 33)))]⟩]) <|
  .seq (.region false [⟨none, [((some 35), .op (.load (some 4) (.tmp 1))), ((some 36), .op (.bslice 2 1 [(.val (.int .i64 0))] [(0, (.val (.val (.int .i64 (-1))))), (1, (.val (.val (.int .i64 0))))])), ((some 37), .call (.val (.fn 38 [] [])) [(.tmp 35), (.tmp 36)]), ((some 34), .op (.mov (.tmp 37))), ((some 38), .op (.ext 0 (.tmp 34))), ((some 39), .op (.ext 1 (.tmp 34))), ((some 9), .op (.mov (.tmp 38))), ((some 10), .op (.mov (.tmp 39)))]⟩]) <|
  .seq (.region false [⟨none, [((some 41), .op (.load (some 4) (.tmp 4))), ((some 42), .call (.val (.fn 36 [] [])) [(.tmp 41), (.val (.val (.int .i64 0)))]), ((some 40), .op (.mov (.tmp 42))), ((some 43), .op (.ext 0 (.tmp 40))), ((some 44), .op (.ext 1 (.tmp 40))), ((some 11), .op (.mov (.tmp 43))), ((some 12), .op (.mov (.tmp 44)))]⟩]) <|
  .seq (.region false [⟨none, [((some 46), .op (.load (some 4) (.tmp 4))), ((some 47), .op (.bslice 2 1 [(.val (.int .i64 0))] [(0, (.val (.val (.int .i64 (-2))))), (1, (.val (.val (.int .i64 (-2)))))])), ((some 48), .call (.val (.fn 38 [] [])) [(.tmp 46), (.tmp 47)]), ((some 45), .op (.mov (.tmp 48))), ((some 49), .op (.ext 0 (.tmp 45))), ((some 50), .op (.ext 1 (.tmp 45))), ((some 13), .op (.mov (.tmp 49))), ((some 14), .op (.mov (.tmp 50)))]⟩]) <|
  .seq (.region false [⟨none, [((some 51), .op (.mov (.tmp 8))), ((some 52), .op (.arith .eql (.tmp 51) (.val (.val (.int .i64 0))))), ((some 53), .op (.mov (.tmp 52)))]⟩, ⟨(some (53, true)), [((some 54), .op (.mov (.tmp 10))), ((some 55), .op (.arith .eql (.tmp 54) (.val (.val (.int .i64 0)))))]⟩, ⟨none, [((some 56), .op (.pick (.tmp 53) (.tmp 55) (.val (.val (.bool false))))), ((some 57), .op (.mov (.tmp 56)))]⟩, ⟨(some (57, true)), [((some 58), .op (.mov (.tmp 12))), ((some 59), .op (.arith .eql (.tmp 58) (.val (.val (.int .i64 0)))))]⟩, ⟨none, [((some 60), .op (.pick (.tmp 57) (.tmp 59) (.val (.val (.bool false))))), ((some 61), .op (.mov (.tmp 60)))]⟩, ⟨(some (61, true)), [((some 62), .op (.mov (.tmp 14))), ((some 63), .op (.arith .eql (.tmp 62) (.val (.val (.int .i64 13)))))]⟩, ⟨none, [((some 64), .op (.pick (.tmp 61) (.tmp 63) (.val (.val (.bool false))))), ((some 65), .op (.mov (.tmp 64)))]⟩, ⟨(some (65, true)), [((some 66), .op (.load (some 4) (.tmp 1))), ((some 67), .call (.val (.fn 32 [] [])) [(.tmp 66)]), ((some 68), .op (.bslice 2 1 [(.val (.int .i64 0))] [(0, (.val (.val (.int .i64 2)))), (1, (.val (.val (.int .i64 1))))])), ((some 69), .call (.val (.fn 27 [] [])) [(.tmp 67), (.tmp 68)])]⟩, ⟨none, [((some 70), .op (.pick (.tmp 65) (.tmp 69) (.val (.val (.bool false))))), ((some 71), .op (.mov (.tmp 70)))]⟩, ⟨(some (71, true)), [((some 72), .op (.load (some 4) (.tmp 1))), ((some 73), .call (.val (.fn 34 [] [])) [(.tmp 72)]), ((some 74), .op (.bslice 2 1 [(.val (.int .i64 0))] [(0, (.val (.val (.int .i64 1)))), (1, (.val (.val (.int .i64 2))))])), ((some 75), .call (.val (.fn 27 [] [])) [(.tmp 73), (.tmp 74)])]⟩, ⟨none, [((some 76), .op (.pick (.tmp 71) (.tmp 75) (.val (.val (.bool false))))), ((some 77), .op (.mov (.tmp 76)))]⟩, ⟨(some (77, true)), [((some 78), .op (.mov (.tmp 7))), ((some 79), .op (.bslice 2 1 [(.val (.int .i64 0))] [(0, (.val (.val (.int .i64 1)))), (1, (.val (.val (.int .i64 2))))])), ((some 80), .call (.val (.fn 27 [] [])) [(.tmp 78), (.tmp 79)])]⟩, ⟨none, [((some 81), .op (.pick (.tmp 77) (.tmp 80) (.val (.val (.bool false))))), ((some 82), .op (.mov (.tmp 81)))]⟩, ⟨(some (82, true)), [((some 83), .op (.mov (.tmp 9))), ((some 84), .op (.bslice 2 1 [(.val (.int .i64 0))] [(0, (.val (.val (.int .i64 1)))), (1, (.val (.val (.int .i64 0))))])), ((some 85), .call (.val (.fn 27 [] [])) [(.tmp 83), (.tmp 84)])]⟩, ⟨none, [((some 86), .op (.pick (.tmp 82) (.tmp 85) (.val (.val (.bool false))))), ((some 0), .op (.mov (.tmp 86)))]⟩]) <|
  .ret,
  [.tmp 0], 87⟩
theorem S_gerundlaw14_alive_ok : compF Tryz.prog 31 [] = some S_gerundlaw14_alive := by kernel_rfl

set_option maxHeartbeats 4000000 in
theorem pc_alive14_of (g1 g2 : Gram) (k1 : g1.Ok) (k2 : g2.Ok) (s1 : g1.Small) (s2 : g2.Small) (h1 : PNew Tryz.prog 40 [encY text3] (readOut g1)) (h2 : PNew Tryz.prog 40 [encY text4] (readOut g2))
    (hr : right09 g1 = true) (e1 : hgts (plansG g1) = [2, 1]) (e2 : rulesP g1 = [1, 2]) (e3 : treeA g1 0 = ([1, 2], 0)) (e4 : wordA g1 [(-1), 0] = ([1, 0], 0)) (e5 : (treeA g2 0).2 = 0) (e6 : wordA g2 [(-2), (-2)] = ([], 13)) : PCall Tryz.prog 31 [] (gb true) := by
  refine PCall.val (by simp) fun H => ?_
  refine MCall.of mixed S_gerundlaw14_alive_ok ?_
  simp (disch := omega) only [↓wr, ↓reduceIte, wq, eq_self, ne_eq, implies_true, oneV, intOp, goI, splice, sBuild, fillE, nilB, isNil, Nat.reduceEqDiff, Nat.reduceAdd, Nat.reduceLT, Nat.reduceLeDiff, Int.reduceNeg, Int.reduceToNat, reduceCtorEq, decide_true, decide_false, S_gerundlaw14_alive]
  intro n1 hn1
  try simp (disch := omega) only [↓wr, ↓reduceIte, wq, eq_self, ne_eq, implies_true, oneV, intOp, goI, splice, sBuild, fillE, nilB, isNil, Nat.reduceEqDiff, Nat.reduceAdd, Nat.reduceLT, Nat.reduceLeDiff, Int.reduceNeg, Int.reduceToNat, reduceCtorEq, decide_true, decide_false]
  generalize t1 : text3.map (fun x => [gy x]) = es1
  have t1' := t1
  simp only [text3, List.map_cons, List.map_nil] at t1'
  rw [t1']
  refine oldConvSame (id := n1) (len := 28) Tryz.underlying53 Tryz.underlying5 rfl (by omega) (by simp only [View.set, if_true]; rfl) ?_
  simp (disch := omega) only [↓wr, ↓reduceIte, wq, eq_self, ne_eq, implies_true, oneV, intOp, goI, splice, sBuild, fillE, nilB, isNil, Nat.reduceEqDiff, Nat.reduceAdd, Nat.reduceLT, Nat.reduceLeDiff, Int.reduceNeg, Int.reduceToNat, reduceCtorEq, decide_true, decide_false]
  refine CallG.lendN h1 (by kernel_rfl) ⟨lent_bytes text3 (by simp only [View.set, if_true, t1]), trivial⟩ ?_
  clear t1 t1' hn1
  generalize H.set n1 (AObj.arr 1 es1) = H1
  clear H
  simp (disch := omega) only [↓wr, ↓reduceIte, wq, eq_self, ne_eq, implies_true, oneV, intOp, goI, splice, sBuild, fillE, nilB, isNil, Nat.reduceEqDiff, Nat.reduceAdd, Nat.reduceLT, Nat.reduceLeDiff, Int.reduceNeg, Int.reduceToNat, reduceCtorEq, decide_true, decide_false, readOut, encG, encS]
  intro n2 hn2
  try simp (disch := omega) only [↓wr, ↓reduceIte, wq, eq_self, ne_eq, implies_true, oneV, intOp, goI, splice, sBuild, fillE, nilB, isNil, Nat.reduceEqDiff, Nat.reduceAdd, Nat.reduceLT, Nat.reduceLeDiff, Int.reduceNeg, Int.reduceToNat, reduceCtorEq, decide_true, decide_false]
  intro n3 hn3
  have d32 := (dead_if hn3 arr_live).1
  try simp (disch := omega) only [↓wr, ↓reduceIte, wq, eq_self, ne_eq, implies_true, oneV, intOp, goI, splice, sBuild, fillE, nilB, isNil, Nat.reduceEqDiff, Nat.reduceAdd, Nat.reduceLT, Nat.reduceLeDiff, Int.reduceNeg, Int.reduceToNat, reduceCtorEq, decide_true, decide_false]
  generalize t1 : text4.map (fun x => [gy x]) = es2
  have t1' := t1
  simp only [text4, List.map_cons, List.map_nil] at t1'
  rw [t1']
  refine oldConvSame (id := n3) (len := 66) Tryz.underlying53 Tryz.underlying5 rfl (by omega) (by simp only [View.set, if_true]; rfl) ?_
  simp (disch := omega) only [↓wr, ↓reduceIte, wq, eq_self, ne_eq, implies_true, oneV, intOp, goI, splice, sBuild, fillE, nilB, isNil, Nat.reduceEqDiff, Nat.reduceAdd, Nat.reduceLT, Nat.reduceLeDiff, Int.reduceNeg, Int.reduceToNat, reduceCtorEq, decide_true, decide_false]
  refine CallG.lendN h2 (by kernel_rfl) ⟨lent_bytes text4 (by simp only [View.set, if_true, t1]), trivial⟩ ?_
  clear t1 t1'
  simp (disch := omega) only [↓wr, ↓reduceIte, wq, eq_self, ne_eq, implies_true, oneV, intOp, goI, splice, sBuild, fillE, nilB, isNil, Nat.reduceEqDiff, Nat.reduceAdd, Nat.reduceLT, Nat.reduceLeDiff, Int.reduceNeg, Int.reduceToNat, reduceCtorEq, decide_true, decide_false, readOut, encG, encS]
  intro n4 hn4
  have d43 := (dead_if hn4 arr_live).1
  have d42 := (dead_if (dead_if hn4 arr_live).2 arr_live).1
  try simp (disch := omega) only [↓wr, ↓reduceIte, wq, eq_self, ne_eq, implies_true, oneV, intOp, goI, splice, sBuild, fillE, nilB, isNil, Nat.reduceEqDiff, Nat.reduceAdd, Nat.reduceLT, Nat.reduceLeDiff, Int.reduceNeg, Int.reduceToNat, reduceCtorEq, decide_true, decide_false, d32, d43, d42, d32.symm, d43.symm, d42.symm]
  have ht1 := (pn_lTree g1 k1 s1 0 (by unfold In64; decide)).pure
  rw [e3] at ht1
  refine CallG.pureAt (fun H => H n2 = .arr 4 [encG g1] ∧ H n4 = .arr 4 [encG g2]) ht1 (by kernel_rfl) ⟨by simp [View.set, d42.symm, d32.symm, encG, encS], by simp [View.set, encG, encS]⟩ ?_
  clear hn2 hn3 hn4
  rintro H2 ⟨f2, f4⟩
  simp only [encG, encS] at f2 f4
  simp (disch := omega) only [↓wr, ↓reduceIte, wq, eq_self, ne_eq, implies_true, oneV, intOp, goI, splice, sBuild, fillE, nilB, isNil, Nat.reduceEqDiff, Nat.reduceAdd, Nat.reduceLT, Nat.reduceLeDiff, Int.reduceNeg, Int.reduceToNat, reduceCtorEq, decide_true, decide_false, f2, f4, outA]
  intro n5 hn5
  have d52 : n2 ≠ n5 := by rintro rfl; rw [f2] at hn5; simp at hn5
  have d54 : n4 ≠ n5 := by rintro rfl; rw [f4] at hn5; simp at hn5
  try simp (disch := omega) only [↓wr, ↓reduceIte, wq, eq_self, ne_eq, implies_true, oneV, intOp, goI, splice, sBuild, fillE, nilB, isNil, Nat.reduceEqDiff, Nat.reduceAdd, Nat.reduceLT, Nat.reduceLeDiff, Int.reduceNeg, Int.reduceToNat, reduceCtorEq, decide_true, decide_false, f2, f4, outA]
  have hw1 := pn_lWord g1 k1 s1 [(-1), 0] (by decide) (fun x hx => by simp at hx; rcases hx with rfl | rfl <;> unfold In64 <;> decide)
  rw [e4] at hw1
  refine CallG.lendNAt (fun H => H n2 = .arr 4 [encG g1] ∧ H n4 = .arr 4 [encG g2]) hw1 (by kernel_rfl) ⟨Lent.tree (tree_agg _ (encG_tree g1)), lent_intsL (l := [(-1), 0]) (by simp [View.set]) rfl, trivial⟩ (by simp [View.set, d52, d54, f2, f4, encG, encS]) ?_
  clear hn5 d52 d54 f2 f4 H2
  rintro H2 ⟨f2, f4⟩
  simp only [encG, encS] at f2 f4
  simp (disch := omega) only [↓wr, ↓reduceIte, wq, eq_self, ne_eq, implies_true, oneV, intOp, goI, splice, sBuild, fillE, nilB, isNil, Nat.reduceEqDiff, Nat.reduceAdd, Nat.reduceLT, Nat.reduceLeDiff, Int.reduceNeg, Int.reduceToNat, reduceCtorEq, decide_true, decide_false, f2, f4, outA]
  have ht2 := (pn_lTree g2 k2 s2 0 (by unfold In64; decide)).pure
  generalize treeA g2 0 = y at ht2 e5
  obtain ⟨y1, y2⟩ := y
  simp only at e5
  subst e5
  refine CallG.pure ht2 (by kernel_rfl) ?_
  simp (disch := omega) only [↓wr, ↓reduceIte, wq, eq_self, ne_eq, implies_true, oneV, intOp, goI, splice, sBuild, fillE, nilB, isNil, Nat.reduceEqDiff, Nat.reduceAdd, Nat.reduceLT, Nat.reduceLeDiff, Int.reduceNeg, Int.reduceToNat, reduceCtorEq, decide_true, decide_false, f2, f4, outA]
  intro n6 hn6
  have d62 : n2 ≠ n6 := by rintro rfl; rw [f2] at hn6; simp at hn6
  have d64 : n4 ≠ n6 := by rintro rfl; rw [f4] at hn6; simp at hn6
  try simp (disch := omega) only [↓wr, ↓reduceIte, wq, eq_self, ne_eq, implies_true, oneV, intOp, goI, splice, sBuild, fillE, nilB, isNil, Nat.reduceEqDiff, Nat.reduceAdd, Nat.reduceLT, Nat.reduceLeDiff, Int.reduceNeg, Int.reduceToNat, reduceCtorEq, decide_true, decide_false, f2, f4, outA]
  have hw2 := pn_lWord g2 k2 s2 [(-2), (-2)] (by decide) (fun x hx => by simp at hx; subst hx; unfold In64; decide)
  rw [e6] at hw2
  refine CallG.lendNAt (fun H => H n2 = .arr 4 [encG g1]) hw2 (by kernel_rfl) ⟨Lent.tree (tree_agg _ (encG_tree g2)), lent_intsL (l := [(-2), (-2)]) (by simp [View.set]) rfl, trivial⟩ (by simp [View.set, d62, f2, encG, encS]) ?_
  clear hn6 d62 d64 f2 f4 H2
  intro H2 f2
  simp only [encG, encS] at f2
  simp (disch := omega) only [↓wr, ↓reduceIte, wq, eq_self, ne_eq, implies_true, oneV, intOp, goI, splice, sBuild, fillE, nilB, isNil, Nat.reduceEqDiff, Nat.reduceAdd, Nat.reduceLT, Nat.reduceLeDiff, Int.reduceNeg, Int.reduceToNat, reduceCtorEq, decide_true, decide_false, f2, outA]
  repeat (refine GoB.eq (fun _ => ?_) (fun hc => absurd rfl hc); simp (disch := omega) only [↓wr, ↓reduceIte, wq, eq_self, ne_eq, implies_true, oneV, intOp, goI, splice, sBuild, fillE, nilB, isNil, Nat.reduceEqDiff, Nat.reduceAdd, Nat.reduceLT, Nat.reduceLeDiff, Int.reduceNeg, Int.reduceToNat, reduceCtorEq, decide_true, decide_false, f2, outA])
  have hh := (pn_lHeights g1 k1 s1).pure
  rw [if_pos hr, e1] at hh
  refine CallG.pure hh (by kernel_rfl) ?_
  simp (disch := omega) only [↓wr, ↓reduceIte, wq, eq_self, ne_eq, implies_true, oneV, intOp, goI, splice, sBuild, fillE, nilB, isNil, Nat.reduceEqDiff, Nat.reduceAdd, Nat.reduceLT, Nat.reduceLeDiff, Int.reduceNeg, Int.reduceToNat, reduceCtorEq, decide_true, decide_false, f2]
  intro n7 hn7
  have d72 : n2 ≠ n7 := by rintro rfl; rw [f2] at hn7; simp at hn7
  try simp (disch := omega) only [↓wr, ↓reduceIte, wq, eq_self, ne_eq, implies_true, oneV, intOp, goI, splice, sBuild, fillE, nilB, isNil, Nat.reduceEqDiff, Nat.reduceAdd, Nat.reduceLT, Nat.reduceLeDiff, Int.reduceNeg, Int.reduceToNat, reduceCtorEq, decide_true, decide_false, f2]
  refine CallG.lendAs (fun H => H n2 = .arr 4 [encG g1]) (pc_Ints [2, 1] [2, 1] (by unfold Short; decide)) (by kernel_rfl) (.val _) ⟨Lent.tree (encI_tree [2, 1]), lent_intsL (l := [2, 1]) (by simp [View.set]) rfl, trivial⟩ (by simp [View.set, d72, f2, encG, encS]) ?_
  clear hn7 d72 f2 H2
  intro H2 f2
  simp only [encG, encS] at f2
  simp (disch := omega) only [↓wr, ↓reduceIte, wq, eq_self, ne_eq, implies_true, oneV, intOp, goI, splice, sBuild, fillE, nilB, isNil, Nat.reduceEqDiff, Nat.reduceAdd, Nat.reduceLT, Nat.reduceLeDiff, Int.reduceNeg, Int.reduceToNat, reduceCtorEq, decide_true, decide_false, f2]
  refine GoB.split (fun _ => ?_) (fun e => absurd e (by decide))
  simp (disch := omega) only [↓wr, ↓reduceIte, wq, eq_self, ne_eq, implies_true, oneV, intOp, goI, splice, sBuild, fillE, nilB, isNil, Nat.reduceEqDiff, Nat.reduceAdd, Nat.reduceLT, Nat.reduceLeDiff, Int.reduceNeg, Int.reduceToNat, reduceCtorEq, decide_true, decide_false, f2]
  have hu := (pn_lRules g1 k1 s1).pure
  rw [if_pos hr, e2] at hu
  refine CallG.pure hu (by kernel_rfl) ?_
  simp (disch := omega) only [↓wr, ↓reduceIte, wq, eq_self, ne_eq, implies_true, oneV, intOp, goI, splice, sBuild, fillE, nilB, isNil, Nat.reduceEqDiff, Nat.reduceAdd, Nat.reduceLT, Nat.reduceLeDiff, Int.reduceNeg, Int.reduceToNat, reduceCtorEq, decide_true, decide_false, f2]
  intro n8 hn8
  have d : n2 ≠ n8 := by rintro rfl; rw [f2] at hn8; simp at hn8
  try simp (disch := omega) only [↓wr, ↓reduceIte, wq, eq_self, ne_eq, implies_true, oneV, intOp, goI, splice, sBuild, fillE, nilB, isNil, Nat.reduceEqDiff, Nat.reduceAdd, Nat.reduceLT, Nat.reduceLeDiff, Int.reduceNeg, Int.reduceToNat, reduceCtorEq, decide_true, decide_false, f2]
  refine CallG.lendAs (fun H => H n2 = .arr 4 [encG g1]) (pc_Ints [1, 2] [1, 2] (by unfold Short; decide)) (by kernel_rfl) (.val _) ⟨Lent.tree (encI_tree [1, 2]), lent_intsL (l := [1, 2]) (by simp [View.set]) rfl, trivial⟩ (by simp [View.set, d, f2, encG, encS]) ?_
  clear hn8 d f2 H2
  intro H2 f2
  simp only [encG, encS] at f2
  simp (disch := omega) only [↓wr, ↓reduceIte, wq, eq_self, ne_eq, implies_true, oneV, intOp, goI, splice, sBuild, fillE, nilB, isNil, Nat.reduceEqDiff, Nat.reduceAdd, Nat.reduceLT, Nat.reduceLeDiff, Int.reduceNeg, Int.reduceToNat, reduceCtorEq, decide_true, decide_false, f2]
  refine GoB.split (fun _ => ?_) (fun e => absurd e (by decide))
  simp (disch := omega) only [↓wr, ↓reduceIte, wq, eq_self, ne_eq, implies_true, oneV, intOp, goI, splice, sBuild, fillE, nilB, isNil, Nat.reduceEqDiff, Nat.reduceAdd, Nat.reduceLT, Nat.reduceLeDiff, Int.reduceNeg, Int.reduceToNat, reduceCtorEq, decide_true, decide_false, f2]
  intro n9 hn9
  have d : n2 ≠ n9 := by rintro rfl; rw [f2] at hn9; simp at hn9
  try simp (disch := omega) only [↓wr, ↓reduceIte, wq, eq_self, ne_eq, implies_true, oneV, intOp, goI, splice, sBuild, fillE, nilB, isNil, Nat.reduceEqDiff, Nat.reduceAdd, Nat.reduceLT, Nat.reduceLeDiff, Int.reduceNeg, Int.reduceToNat, reduceCtorEq, decide_true, decide_false, f2]
  refine CallG.lendAs (fun H => H n2 = .arr 4 [encG g1]) (pc_Ints [1, 2] [1, 2] (by unfold Short; decide)) (by kernel_rfl) (.val _) ⟨Lent.tree (encI_tree [1, 2]), lent_intsL (l := [1, 2]) (by simp [View.set]) rfl, trivial⟩ (by simp [View.set, d, f2, encG, encS]) ?_
  clear hn9 d f2 H2
  intro H2 f2
  simp only [encG, encS] at f2
  simp (disch := omega) only [↓wr, ↓reduceIte, wq, eq_self, ne_eq, implies_true, oneV, intOp, goI, splice, sBuild, fillE, nilB, isNil, Nat.reduceEqDiff, Nat.reduceAdd, Nat.reduceLT, Nat.reduceLeDiff, Int.reduceNeg, Int.reduceToNat, reduceCtorEq, decide_true, decide_false, f2]
  refine GoB.split (fun _ => ?_) (fun e => absurd e (by decide))
  simp (disch := omega) only [↓wr, ↓reduceIte, wq, eq_self, ne_eq, implies_true, oneV, intOp, goI, splice, sBuild, fillE, nilB, isNil, Nat.reduceEqDiff, Nat.reduceAdd, Nat.reduceLT, Nat.reduceLeDiff, Int.reduceNeg, Int.reduceToNat, reduceCtorEq, decide_true, decide_false, f2]
  intro n10 hn10
  have d : n2 ≠ n10 := by rintro rfl; rw [f2] at hn10; simp at hn10
  try simp (disch := omega) only [↓wr, ↓reduceIte, wq, eq_self, ne_eq, implies_true, oneV, intOp, goI, splice, sBuild, fillE, nilB, isNil, Nat.reduceEqDiff, Nat.reduceAdd, Nat.reduceLT, Nat.reduceLeDiff, Int.reduceNeg, Int.reduceToNat, reduceCtorEq, decide_true, decide_false, f2]
  refine CallG.lendAs (fun _ => True) (pc_Ints [1, 0] [1, 0] (by unfold Short; decide)) (by kernel_rfl) (.val _) ⟨Lent.tree (encI_tree [1, 0]), lent_intsL (l := [1, 0]) (by simp [View.set]) rfl, trivial⟩ trivial ?_
  intro H3 _
  simp (disch := omega) only [↓wr, ↓reduceIte, wq, eq_self, ne_eq, implies_true, oneV, intOp, goI, splice, sBuild, fillE, nilB, isNil, Nat.reduceEqDiff, Nat.reduceAdd, Nat.reduceLT, Nat.reduceLeDiff, Int.reduceNeg, Int.reduceToNat, reduceCtorEq, decide_true, decide_false]
  rfl

theorem pc_alive14 : PCall Tryz.prog 31 [] (gb true) :=
  pc_alive14_of gram3 gram4 gram3_ok gram4_ok gram3_small gram4_small read3 read4 g3r g3h g3u g3t g3w g4t g4w
end Gv

/-
  The laws on heights, least trees and least sentences.
  Conditions: lists that are no longer than an int says, numbers that are ints.
-/
set_option linter.unusedSimpArgs false
set_option maxRecDepth 100000
namespace Gv
open Go Go.Proofs

def S_gerundlaw14_LeastTells : SF := ⟨.seq (.region false [⟨none, [((some 1), .op (.frz (.tmp 0))), ((some 2), .op (.mov (.val (.val (.bool false)))))]⟩]) <|
  .seq (.seq (.region false [⟨none, [((some 3), .call (.val (.fn 31 [] [])) []), ((some 4), .op (.not (.tmp 3)))]⟩]) <|
  .cond (.tmp 4) (.seq (.region false [⟨none, [((some 2), .op (.mov (.val (.val (.bool false)))))]⟩]) <|
  .ret) (.skip)) <|
  .seq (.seq (.region false [⟨none, [((some 5), .op (.load (some 4) (.tmp 1))), ((some 6), .call (.val (.fn 13 [] [])) [(.tmp 5)])]⟩]) <|
  .cond (.tmp 6) (.seq (.region false [⟨none, [((some 2), .op (.mov (.val (.val (.bool true)))))]⟩]) <|
  .ret) (.skip)) <|
  .seq (.region true [⟨none, [((some 7), .op (.load (some 4) (.tmp 1))), ((some 8), .call (.val (.fn 32 [] [])) [(.tmp 7)]), ((some 9), .op (.load (some 4) (.tmp 1))), ((some 10), .call (.val (.fn 33 [] [])) [(.tmp 9)]), ((some 11), .call (.val (.fn 27 [] [])) [(.tmp 8), (.tmp 10)]), ((some 12), .op (.mov (.tmp 11)))]⟩, ⟨(some (12, true)), [((some 13), .op (.load (some 4) (.tmp 1))), ((some 14), .call (.val (.fn 34 [] [])) [(.tmp 13)]), ((some 15), .op (.load (some 4) (.tmp 1))), ((some 16), .call (.val (.fn 35 [] [])) [(.tmp 15)]), ((some 17), .call (.val (.fn 27 [] [])) [(.tmp 14), (.tmp 16)])]⟩, ⟨none, [((some 18), .op (.pick (.tmp 12) (.tmp 17) (.val (.val (.bool false))))), ((some 2), .op (.mov (.tmp 18)))]⟩]) <|
  .ret,
  [.tmp 2], 19⟩
theorem S_gerundlaw14_LeastTells_ok : compF Tryz.prog 7 [1] = some S_gerundlaw14_LeastTells := by kernel_rfl

theorem short_hgts {g : Gram} (hg : g.Ok) : Short (if right09 g = true then hgts (plansG g) else []) := by
  have := hg.nons
  unfold Short at this ⊢
  split <;> simp [plans_len, this]
theorem short_rulesP {g : Gram} (hg : g.Ok) : Short (if right09 g = true then rulesP g else []) := by
  have := hg.nons
  unfold Short at this ⊢
  split <;> simp [rulesP, plans_len, this]

set_option maxHeartbeats 2000000 in
theorem pc_LeastTells (g : Gram) (hg : g.Ok) : PCall Tryz.prog 7 [.agg (encG g)] (gb true) := by
  refine PCall.val (gg_tree g) fun H => ?_
  refine MCall.of mixed S_gerundlaw14_LeastTells_ok ?_
  simp (disch := omega) only [↓wr, ↓reduceIte, wq, eq_self, ne_eq, implies_true, oneV, intOp, goI, splice, sBuild, fillE, nilB, isNil, Nat.reduceEqDiff, Nat.reduceAdd, Nat.reduceLT, Nat.reduceLeDiff, Int.reduceNeg, Int.reduceToNat, reduceCtorEq, decide_true, decide_false, S_gerundlaw14_LeastTells, encG, encS]
  refine CallG.pure pc_alive14 (by kernel_rfl) ?_
  simp (disch := omega) only [↓wr, ↓reduceIte, wq, eq_self, ne_eq, implies_true, oneV, intOp, goI, splice, sBuild, fillE, nilB, isNil, Nat.reduceEqDiff, Nat.reduceAdd, Nat.reduceLT, Nat.reduceLeDiff, Int.reduceNeg, Int.reduceToNat, reduceCtorEq, decide_true, decide_false, encG, encS]
  refine CallG.pure (pc_great g) (by kernel_rfl) ?_
  simp (disch := omega) only [↓wr, ↓reduceIte, wq, eq_self, ne_eq, implies_true, oneV, intOp, goI, splice, sBuild, fillE, nilB, isNil, Nat.reduceEqDiff, Nat.reduceAdd, Nat.reduceLT, Nat.reduceLeDiff, Int.reduceNeg, Int.reduceToNat, reduceCtorEq, decide_true, decide_false]
  refine GoB.split (fun e => ?_) (fun e => ?_)
  · simp (disch := omega) only [↓wr, ↓reduceIte, wq, eq_self, ne_eq, implies_true, oneV, intOp, goI, splice, sBuild, fillE, nilB, isNil, Nat.reduceEqDiff, Nat.reduceAdd, Nat.reduceLT, Nat.reduceLeDiff, Int.reduceNeg, Int.reduceToNat, reduceCtorEq, decide_true, decide_false]
  · have hs : g.Small := great_small e
    simp (disch := omega) only [↓wr, ↓reduceIte, wq, eq_self, ne_eq, implies_true, oneV, intOp, goI, splice, sBuild, fillE, nilB, isNil, Nat.reduceEqDiff, Nat.reduceAdd, Nat.reduceLT, Nat.reduceLeDiff, Int.reduceNeg, Int.reduceToNat, reduceCtorEq, decide_true, decide_false, encG, encS]
    refine CallG.pure (pn_lHeights g hg hs).pure (by kernel_rfl) ?_
    simp (disch := omega) only [↓wr, ↓reduceIte, wq, eq_self, ne_eq, implies_true, oneV, intOp, goI, splice, sBuild, fillE, nilB, isNil, Nat.reduceEqDiff, Nat.reduceAdd, Nat.reduceLT, Nat.reduceLeDiff, Int.reduceNeg, Int.reduceToNat, reduceCtorEq, decide_true, decide_false]
    refine CallG.pure (pn_Heights14 g hg).pure (by kernel_rfl) ?_
    simp (disch := omega) only [↓wr, ↓reduceIte, wq, eq_self, ne_eq, implies_true, oneV, intOp, goI, splice, sBuild, fillE, nilB, isNil, Nat.reduceEqDiff, Nat.reduceAdd, Nat.reduceLT, Nat.reduceLeDiff, Int.reduceNeg, Int.reduceToNat, reduceCtorEq, decide_true, decide_false]
    refine CallG.pure (pc_Ints _ _ (short_hgts hg)) (by kernel_rfl) ?_
    simp (disch := omega) only [↓wr, ↓reduceIte, wq, eq_self, ne_eq, implies_true, oneV, intOp, goI, splice, sBuild, fillE, nilB, isNil, Nat.reduceEqDiff, Nat.reduceAdd, Nat.reduceLT, Nat.reduceLeDiff, Int.reduceNeg, Int.reduceToNat, reduceCtorEq, decide_true, decide_false]
    refine GoB.split (fun _ => ?_) (fun e => absurd e (by simp))
    simp (disch := omega) only [↓wr, ↓reduceIte, wq, eq_self, ne_eq, implies_true, oneV, intOp, goI, splice, sBuild, fillE, nilB, isNil, Nat.reduceEqDiff, Nat.reduceAdd, Nat.reduceLT, Nat.reduceLeDiff, Int.reduceNeg, Int.reduceToNat, reduceCtorEq, decide_true, decide_false, encG, encS]
    refine CallG.pure (pn_lRules g hg hs).pure (by kernel_rfl) ?_
    simp (disch := omega) only [↓wr, ↓reduceIte, wq, eq_self, ne_eq, implies_true, oneV, intOp, goI, splice, sBuild, fillE, nilB, isNil, Nat.reduceEqDiff, Nat.reduceAdd, Nat.reduceLT, Nat.reduceLeDiff, Int.reduceNeg, Int.reduceToNat, reduceCtorEq, decide_true, decide_false]
    refine CallG.pure (pn_Rules14 g hg).pure (by kernel_rfl) ?_
    simp (disch := omega) only [↓wr, ↓reduceIte, wq, eq_self, ne_eq, implies_true, oneV, intOp, goI, splice, sBuild, fillE, nilB, isNil, Nat.reduceEqDiff, Nat.reduceAdd, Nat.reduceLT, Nat.reduceLeDiff, Int.reduceNeg, Int.reduceToNat, reduceCtorEq, decide_true, decide_false]
    refine CallG.pure (pc_Ints _ _ (short_rulesP hg)) (by kernel_rfl) ?_
    simp (disch := omega) only [↓wr, ↓reduceIte, wq, eq_self, ne_eq, implies_true, oneV, intOp, goI, splice, sBuild, fillE, nilB, isNil, Nat.reduceEqDiff, Nat.reduceAdd, Nat.reduceLT, Nat.reduceLeDiff, Int.reduceNeg, Int.reduceToNat, reduceCtorEq, decide_true, decide_false]
    simp

end Gv
