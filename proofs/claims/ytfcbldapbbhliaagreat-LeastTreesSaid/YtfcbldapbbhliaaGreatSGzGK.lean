/-
  Part 11 of the proof: what the machine does and what the functions answer.
  Conditions: those that each lemma names.
-/
import Derived.Test.YtfcbldapbbhliaaGreatSGzGJ
set_option linter.unusedSimpArgs false
set_option linter.unusedVariables false

/-
  The least tree of a nonterminal, the least sentence of symbols: the program answers as the document does.
  Conditions: lists that are no longer than an int says, numbers that are ints; no more than a thousand names.
-/
set_option linter.unusedSimpArgs false
set_option maxRecDepth 100000
namespace Gv
open Go Go.Proofs

def S_least_written : SF := ⟨.seq (.region false [⟨none, [((some 3), .op (.frz (.tmp 0))), ((some 6), .op (.mov (.val (.val (.pointer none))))), ((some 7), .op (.mov (.val (.val (.int .i64 0)))))]⟩]) <|
  .seq (.region true [⟨none, [((some 11), .op (.load (some 4) (.tmp 3))), ((some 12), .op (.load (some 4) (.tmp 3))), ((some 13), .call (.val (.fn 57 [] [])) [(.tmp 12)]), ((some 14), .op (.build [(.emp 1), (.emp 1), (.emp 1), (.val (.int .i64 0)), (.emp 1), (.emp 1), (.emp 1)] [(0, 4, (.tmp 11)), (4, 1, (.tmp 13))])), ((some 15), .op (.box (.tmp 14))), ((some 8), .op (.mov (.tmp 15)))]⟩]) <|
  .seq (.region false [⟨none, [((some 17), .op (.mov (.tmp 1))), ((some 18), .op (.mov (.tmp 8))), ((some 19), .op (.nilc (.tmp 18))), ((some 20), .op (.addr 4 (.tmp 19))), ((some 21), .op (.load none (.tmp 20))), ((some 22), .call (.val (.fn 90 [] [])) [(.tmp 17), (.tmp 21)]), ((some 16), .op (.mov (.tmp 22))), ((some 23), .op (.ext 0 (.tmp 16))), ((some 24), .op (.ext 1 (.tmp 16))), ((some 9), .op (.alloc [(.val (.int .i64 0)), (.val (.int .i64 0)), (.val (.int .i64 0)), (.val (.int .i64 0))])), (none, .op (.store 4 (.tmp 9) (.tmp 23))), ((some 10), .op (.mov (.tmp 24)))]⟩]) <|
  .seq (.block 0 (.seq (.region false [⟨none, [((some 26), .op (.mov (.tmp 10))), ((some 27), .op (.not (.tmp 26))), ((some 25), .op (.mov (.tmp 27)))]⟩]) <|
  .cond (.tmp 25) (.seq (.region false [⟨none, [((some 6), .op (.mov (.val (.val (.pointer none))))), ((some 7), .op (.mov (.val (.val (.int .i64 9)))))]⟩]) <|
  .ret) (.seq (.region false [⟨none, [((some 29), .op (.addr 2 (.tmp 9))), ((some 30), .op (.load none (.tmp 29))), ((some 31), .op (.arith .gtr (.tmp 30) (.val (.val (.int .i64 300))))), ((some 32), .op (.mov (.tmp 31)))]⟩, ⟨(some (32, false)), [((some 33), .op (.addr 3 (.tmp 9))), ((some 34), .op (.load none (.tmp 33))), ((some 35), .op (.mov (.tmp 2))), ((some 36), .op (.arith .gtr (.tmp 34) (.tmp 35)))]⟩, ⟨none, [((some 37), .op (.pick (.tmp 32) (.val (.val (.bool true))) (.tmp 36))), ((some 28), .op (.mov (.tmp 37)))]⟩]) <|
  .cond (.tmp 28) (.seq (.region false [⟨none, [((some 6), .op (.mov (.val (.val (.pointer none))))), ((some 7), .op (.mov (.val (.val (.int .i64 13)))))]⟩]) <|
  .ret) (.skip)))) <|
  .seq (.region false [⟨none, [((some 38), .op (.mov (.tmp 8))), ((some 39), .op (.mov (.tmp 1))), ((some 40), .call (.val (.fn 91 [] [])) [(.tmp 38), (.tmp 39)])]⟩]) <|
  .seq (.region false [⟨none, [((some 41), .op (.mov (.tmp 8))), ((some 6), .op (.mov (.tmp 41))), ((some 7), .op (.mov (.val (.val (.int .i64 0)))))]⟩]) <|
  .ret,
  [.tmp 6, .tmp 7], 42⟩
theorem S_least_written_ok : compF Tryz.prog 59 [3] = some S_least_written := by kernel_rfl

def nilP : V := .val (.pointer none)
/-- What is written answers. -/
def WrtA (g : Gram) (l : List Int) (t : Int) (r : V) (H : View) : Prop :=
  ((sumP (plansG g) l zeroP).2 = false ∧ r = .tup [nilP, gi 9]) ∨
  ((sumP (plansG g) l zeroP).2 = true ∧ (300 < (sumP (plansG g) l zeroP).1.rules ∨ t < (sumP (plansG g) l zeroP).1.terms) ∧ r = .tup [nilP, gi 13]) ∨
  ((sumP (plansG g) l zeroP).2 = true ∧ ¬ (300 < (sumP (plansG g) l zeroP).1.rules ∨ t < (sumP (plansG g) l zeroP).1.terms) ∧ ∃ b, r = .tup [.ptr b 0 0, gi 0] ∧ Wrt g b (treeD g (plansG g) g.nons.length l) (wordD g (plansG g) g.nons.length l) H)

set_option maxHeartbeats 4000000 in
theorem mo_written (g : Gram) (hg : g.Ok) (hf : g.Fine) (l : List Int) (hl : l.length ≤ 50) (hn : ∀ x ∈ l, In64 x ∧ (x < 0 → -1 - x < g.nons.length)) (t : Int) (u : V) (H : View) (hi : HasI H u l) :
    MCall Tryz.prog 59 [.agg (encG g), u, gi t] H (WrtA g l t) := by
  have hsl : Short l := by unfold Short; omega
  have z2 := hf.nons
  have z3 := hf.rules
  refine MCall.of mixed S_least_written_ok ?_
  simp (disch := omega) only [↓wr, ↓reduceIte, wq, eq_self, ne_eq, implies_true, oneV, intOp, goI, splice, sBuild, fillE, nilB, isNil, Nat.reduceEqDiff, Nat.reduceAdd, Nat.reduceLT, Nat.reduceLeDiff, Int.reduceNeg, Int.reduceToNat, reduceCtorEq, decide_true, decide_false, S_least_written, encG, encS]
  refine CallG.pure (pn_plans g hg hf).pure (by kernel_rfl) ?_
  simp (disch := omega) only [↓wr, ↓reduceIte, wq, eq_self, ne_eq, implies_true, oneV, intOp, goI, splice, sBuild, fillE, nilB, isNil, Nat.reduceEqDiff, Nat.reduceAdd, Nat.reduceLT, Nat.reduceLeDiff, Int.reduceNeg, Int.reduceToNat, reduceCtorEq, decide_true, decide_false]
  intro b hb
  have hi1 : HasI (H.set b (.arr 7 [encW g (.emp 1) (.emp 1)])) u l := hi.keep fun id hid => by
    have : id ≠ b := by rintro rfl; exact hid hb
    simp [View.set, this]
  try simp (disch := omega) only [↓wr, ↓reduceIte, wq, eq_self, ne_eq, implies_true, oneV, intOp, goI, splice, sBuild, fillE, nilB, isNil, Nat.reduceEqDiff, Nat.reduceAdd, Nat.reduceLT, Nat.reduceLeDiff, Int.reduceNeg, Int.reduceToNat, reduceCtorEq, decide_true, decide_false]
  have hP : ∀ m, OkP (pAt (plansG g) m) := fun m => stage_ok z3 z2 m
  refine CallG.lendN (pn_sum (plansG g) hP l hsl fun x hx => ⟨(hn x hx).1, fun h => by rw [plans_len]; exact (hn x hx).2 h⟩) (by kernel_rfl) ⟨hi1.lent, Lent.tree (encPs_tree _), trivial⟩ ?_
  have hsz := fun (h : AllK (plansG g) l) => And.intro (tree_size h) (size_tree g g.nons.length l zeroP (up_all h) pos_zero)
  have hok := sumP_ok (plansG g) l zeroP
  have hwt := word_tree hf.right g.nons.length l
  have hps := sumP_pos (fun m => (hP m).1) l zeroP pos_zero
  unfold WrtA
  generalize hsp : sumP (plansG g) l zeroP = sp at hok hps hsz ⊢
  unfold PosP at hps
  simp (disch := omega) only [↓wr, ↓reduceIte, wq, eq_self, ne_eq, implies_true, oneV, intOp, goI, splice, sBuild, fillE, nilB, isNil, Nat.reduceEqDiff, Nat.reduceAdd, Nat.reduceLT, Nat.reduceLeDiff, Int.reduceNeg, Int.reduceToNat, reduceCtorEq, decide_true, decide_false, encPl]
  intro n hn1
  have hnb := (dead_if hn1 arr_live).1
  have hnH := (dead_if hn1 arr_live).2
  try simp (disch := omega) only [↓wr, ↓reduceIte, wq, eq_self, ne_eq, implies_true, oneV, intOp, goI, splice, sBuild, fillE, nilB, isNil, Nat.reduceEqDiff, Nat.reduceAdd, Nat.reduceLT, Nat.reduceLeDiff, Int.reduceNeg, Int.reduceToNat, reduceCtorEq, decide_true, decide_false, encPl]
  refine GoB.split (fun hs => ?_) (fun hs => ?_)
  · have hak := hok.1 hs
    simp (disch := omega) only [↓wr, ↓reduceIte, wq, eq_self, ne_eq, implies_true, oneV, intOp, goI, splice, sBuild, fillE, nilB, isNil, Nat.reduceEqDiff, Nat.reduceAdd, Nat.reduceLT, Nat.reduceLeDiff, Int.reduceNeg, Int.reduceToNat, reduceCtorEq, decide_true, decide_false, encPl]
    refine GoB.dec (fun h3 => ?_) (fun h3 => ?_)
    · simp (disch := omega) only [↓wr, ↓reduceIte, wq, eq_self, ne_eq, implies_true, oneV, intOp, goI, splice, sBuild, fillE, nilB, isNil, Nat.reduceEqDiff, Nat.reduceAdd, Nat.reduceLT, Nat.reduceLeDiff, Int.reduceNeg, Int.reduceToNat, reduceCtorEq, decide_true, decide_false]
      exact .inr (.inl ⟨hs, .inl h3, rfl⟩)
    · simp (disch := omega) only [↓wr, ↓reduceIte, wq, eq_self, ne_eq, implies_true, oneV, intOp, goI, splice, sBuild, fillE, nilB, isNil, Nat.reduceEqDiff, Nat.reduceAdd, Nat.reduceLT, Nat.reduceLeDiff, Int.reduceNeg, Int.reduceToNat, reduceCtorEq, decide_true, decide_false, encPl]
      refine GoB.dec (fun h4 => ?_) (fun h4 => ?_)
      · simp (disch := omega) only [↓wr, ↓reduceIte, wq, eq_self, ne_eq, implies_true, oneV, intOp, goI, splice, sBuild, fillE, nilB, isNil, Nat.reduceEqDiff, Nat.reduceAdd, Nat.reduceLT, Nat.reduceLeDiff, Int.reduceNeg, Int.reduceToNat, reduceCtorEq, decide_true, decide_false]
        exact .inr (.inl ⟨hs, .inr h4, rfl⟩)
      · simp (disch := omega) only [↓wr, ↓reduceIte, wq, eq_self, ne_eq, implies_true, oneV, intOp, goI, splice, sBuild, fillE, nilB, isNil, Nat.reduceEqDiff, Nat.reduceAdd, Nat.reduceLT, Nat.reduceLeDiff, Int.reduceNeg, Int.reduceToNat, reduceCtorEq, decide_true, decide_false, encPl]
        have ho := (Owns.nil (H := H)).new hb 7 [encW g (.emp 1) (.emp 1)]
        have hlt := (hsz hak).1 (by omega)
        have hx := mo_write_any g hg hf b g.nons.length l hsl hn (up_all hak) [] [] (((H.set b (.arr 7 [encW g (.emp 1) (.emp 1)])).set n (.arr 4 [[gi 0, gi 0, gi 0, gi 0]])).set n (.arr 4 [encPl sp.1]))
          (by simp only [List.nil_append]; omega) (by simp only [List.nil_append]; omega)
          ⟨.emp 1, .emp 1, by
            rw [set_set]
            have o2 := ho.fresh (n := n) (o := .arr 4 [encPl sp.1]) (by simp [View.set, hnb, hnH])
            exact ((o2.emp (k := 1) (sz := 1)).emp (k := 1) (sz := 1)).perm (rot3.trans (.swap _ _ _))⟩ u
          (hi1.keep fun id hid => by
            have : id ≠ n := by rintro rfl; simp [View.set, hnb, hnH] at hid
            simp [View.set, this])
        simp only [List.nil_append, encW, encPl] at hx
        refine CallG.loud (hx.mono ?_)
        intro v H1 hw
        simp (disch := omega) only [↓wr, ↓reduceIte, wq, eq_self, ne_eq, implies_true, oneV, intOp, goI, splice, sBuild, fillE, nilB, isNil, Nat.reduceEqDiff, Nat.reduceAdd, Nat.reduceLT, Nat.reduceLeDiff, Int.reduceNeg, Int.reduceToNat, reduceCtorEq, decide_true, decide_false]
        exact .inr (.inr ⟨hs, by omega, b, rfl, hw⟩)
  · simp (disch := omega) only [↓wr, ↓reduceIte, wq, eq_self, ne_eq, implies_true, oneV, intOp, goI, splice, sBuild, fillE, nilB, isNil, Nat.reduceEqDiff, Nat.reduceAdd, Nat.reduceLT, Nat.reduceLeDiff, Int.reduceNeg, Int.reduceToNat, reduceCtorEq, decide_true, decide_false]
    exact .inl ⟨hs, rfl⟩

def S_least_Tree : SF := ⟨.seq (.region false [⟨none, [((some 2), .op (.frz (.tmp 0))), ((some 4), .op (.mov (.val (.emp 1)))), ((some 5), .op (.mov (.val (.val (.int .i64 0)))))]⟩]) <|
  .seq (.seq (.region false [⟨none, [((some 8), .op (.load (some 4) (.tmp 2))), ((some 9), .call (.val (.fn 41 [] [])) [(.tmp 8)]), ((some 10), .op (.not (.tmp 9))), ((some 11), .op (.mov (.tmp 10)))]⟩, ⟨(some (11, false)), [((some 12), .op (.mov (.tmp 1))), ((some 13), .op (.arith .lss (.tmp 12) (.val (.val (.int .i64 0)))))]⟩, ⟨none, [((some 14), .op (.pick (.tmp 11) (.val (.val (.bool true))) (.tmp 13))), ((some 15), .op (.mov (.tmp 14)))]⟩, ⟨(some (15, false)), [((some 16), .op (.mov (.tmp 1))), ((some 17), .op (.addr 1 (.tmp 2))), ((some 18), .op (.load none (.tmp 17))), ((some 19), .op (.len (.tmp 18))), ((some 20), .op (.arith .geq (.tmp 16) (.tmp 19)))]⟩, ⟨none, [((some 21), .op (.pick (.tmp 15) (.val (.val (.bool true))) (.tmp 20)))]⟩]) <|
  .cond (.tmp 21) (.seq (.region false [⟨none, [((some 4), .op (.mov (.val (.emp 1)))), ((some 5), .op (.mov (.val (.val (.int .i64 1)))))]⟩]) <|
  .ret) (.skip)) <|
  .seq (.region false [⟨none, [((some 23), .op (.load (some 4) (.tmp 2))), ((some 24), .op (.mov (.tmp 1))), ((some 25), .op (.arith .sub (.val (.val (.int .i64 (-1)))) (.tmp 24))), ((some 26), .op (.bslice 1 1 [(.val (.int .i64 0))] [(0, (.tmp 25))])), ((some 27), .call (.val (.fn 59 [] [])) [(.tmp 23), (.tmp 26), (.val (.val (.int .i64 1048576)))]), ((some 22), .op (.mov (.tmp 27))), ((some 28), .op (.ext 0 (.tmp 22))), ((some 29), .op (.ext 1 (.tmp 22))), ((some 6), .op (.mov (.tmp 28))), ((some 7), .op (.mov (.tmp 29)))]⟩]) <|
  .seq (.seq (.region false [⟨none, [((some 30), .op (.mov (.tmp 7))), ((some 31), .op (.arith .neq (.tmp 30) (.val (.val (.int .i64 0)))))]⟩]) <|
  .cond (.tmp 31) (.seq (.region false [⟨none, [((some 32), .op (.mov (.tmp 7))), ((some 4), .op (.mov (.val (.emp 1)))), ((some 5), .op (.mov (.tmp 32)))]⟩]) <|
  .ret) (.skip)) <|
  .seq (.region false [⟨none, [((some 33), .op (.mov (.tmp 6))), ((some 34), .op (.nilc (.tmp 33))), ((some 35), .op (.addr 5 (.tmp 34))), ((some 36), .op (.load none (.tmp 35))), ((some 4), .op (.mov (.tmp 36))), ((some 5), .op (.mov (.val (.val (.int .i64 0)))))]⟩]) <|
  .ret,
  [.tmp 4, .tmp 5], 37⟩
theorem S_least_Tree_ok : compF Tryz.prog 36 [2] = some S_least_Tree := by kernel_rfl

def S_least_Word_1 : SF := ⟨.seq (.region false [⟨none, [((some 3), .op (.mov (.val (.val (.bool false)))))]⟩]) <|
  .seq (.region false [⟨none, [((some 4), .op (.load (some 4) (.tmp 1))), ((some 5), .op (.mov (.tmp 0))), ((some 6), .call (.val (.fn 64 [] [])) [(.tmp 4), (.tmp 5)]), ((some 7), .op (.not (.tmp 6))), ((some 3), .op (.mov (.tmp 7)))]⟩]) <|
  .ret,
  [.tmp 3], 8⟩
theorem S_least_Word_1_ok : compF Tryz.prog 63 [] = some S_least_Word_1 := by kernel_rfl

def S_least_Word : SF := ⟨.seq (.region false [⟨none, [((some 2), .op (.frz (.tmp 0))), ((some 4), .op (.mov (.val (.emp 1)))), ((some 5), .op (.mov (.val (.val (.int .i64 0)))))]⟩]) <|
  .seq (.seq (.region false [⟨none, [((some 8), .op (.load (some 4) (.tmp 2))), ((some 9), .call (.val (.fn 41 [] [])) [(.tmp 8)]), ((some 10), .op (.not (.tmp 9))), ((some 11), .op (.mov (.tmp 10)))]⟩, ⟨(some (11, false)), [((some 12), .op (.mov (.tmp 1))), ((some 13), .op (.mkfn 63 [] [(.tmp 2)])), ((some 14), .call (.val (.fn 62 [] [])) [(.tmp 12), (.tmp 13)])]⟩, ⟨none, [((some 15), .op (.pick (.tmp 11) (.val (.val (.bool true))) (.tmp 14)))]⟩]) <|
  .cond (.tmp 15) (.seq (.region false [⟨none, [((some 4), .op (.mov (.val (.emp 1)))), ((some 5), .op (.mov (.val (.val (.int .i64 1)))))]⟩]) <|
  .ret) (.skip)) <|
  .seq (.region false [⟨none, [((some 17), .op (.load (some 4) (.tmp 2))), ((some 18), .op (.mov (.tmp 1))), ((some 19), .call (.val (.fn 59 [] [])) [(.tmp 17), (.tmp 18), (.val (.val (.int .i64 60)))]), ((some 16), .op (.mov (.tmp 19))), ((some 20), .op (.ext 0 (.tmp 16))), ((some 21), .op (.ext 1 (.tmp 16))), ((some 6), .op (.mov (.tmp 20))), ((some 7), .op (.mov (.tmp 21)))]⟩]) <|
  .seq (.seq (.region false [⟨none, [((some 22), .op (.mov (.tmp 7))), ((some 23), .op (.arith .neq (.tmp 22) (.val (.val (.int .i64 0)))))]⟩]) <|
  .cond (.tmp 23) (.seq (.region false [⟨none, [((some 24), .op (.mov (.tmp 7))), ((some 4), .op (.mov (.val (.emp 1)))), ((some 5), .op (.mov (.tmp 24)))]⟩]) <|
  .ret) (.skip)) <|
  .seq (.region false [⟨none, [((some 25), .op (.mov (.tmp 6))), ((some 26), .op (.nilc (.tmp 25))), ((some 27), .op (.addr 6 (.tmp 26))), ((some 28), .op (.load none (.tmp 27))), ((some 4), .op (.mov (.tmp 28))), ((some 5), .op (.mov (.val (.val (.int .i64 0)))))]⟩]) <|
  .ret,
  [.tmp 4, .tmp 5], 29⟩
theorem S_least_Word_ok : compF Tryz.prog 38 [2] = some S_least_Word := by kernel_rfl

set_option maxHeartbeats 4000000 in
theorem pn_lTree (g : Gram) (hg : g.Ok) (hs : g.Small) (n : Int) (hn : In64 n) : PNew Tryz.prog 36 [.agg (encG g), gi n] (outA (treeA g n)) := by
  have hsh := hg.nons
  unfold Short at hsh
  unfold In64 at hn
  refine PNew.of (gi_trees g n) ?_
  refine MCall.of mixed S_least_Tree_ok ?_
  simp (disch := omega) only [↓wr, ↓reduceIte, wq, eq_self, ne_eq, implies_true, oneV, intOp, goI, splice, sBuild, fillE, nilB, isNil, Nat.reduceEqDiff, Nat.reduceAdd, Nat.reduceLT, Nat.reduceLeDiff, Int.reduceNeg, Int.reduceToNat, reduceCtorEq, decide_true, decide_false, S_least_Tree, encG, encS]
  refine CallG.pure (pc_cRight g hg hs.names) (by kernel_rfl) ?_
  have bad : ∀ h' : Heap, (right09 g && decide (0 ≤ n) && decide (n < g.nons.length)) = false → FrN h' (.tup [.emp 1, gi 1]) (outA (treeA g n)) := fun h' e => by
    unfold treeA; rw [if_neg (by rw [e]; simp)]; exact frn_outA (x := ([], 1)) (.emp _)
  repeat' (first | (refine GoB.dec (fun _ => ?_) (fun _ => ?_)) | (refine GoB.eq (fun _ => ?_) (fun _ => ?_)) | (refine GoB.ne (fun _ => ?_) (fun _ => ?_)) | (refine GoB.split (fun _ => ?_) (fun _ => ?_)) | (simp (disch := omega) only [↓wr, ↓reduceIte, wq, eq_self, ne_eq, implies_true, oneV, intOp, goI, splice, sBuild, fillE, nilB, isNil, Nat.reduceEqDiff, Nat.reduceAdd, Nat.reduceLT, Nat.reduceLeDiff, Int.reduceNeg, Int.reduceToNat, reduceCtorEq, decide_true, decide_false, encG, encS]))
  all_goals first
    | (intro h' _; refine bad h' ?_; simp only [Bool.and_eq_false_iff, decide_eq_false_iff_not]; first | (left; left; assumption) | (left; right; omega) | (right; omega))
    | skip
  have hr : right09 g = true := by assumption
  have h0 : 0 ≤ n := by omega
  have h1 : n < g.nons.length := by omega
  have hf := right09_fine hr
  have hA : treeA g n = _ := if_pos (by simp [hr, h0, h1])
  intro m
  try simp (disch := omega) only [↓wr, ↓reduceIte, wq, eq_self, ne_eq, implies_true, oneV, intOp, goI, splice, sBuild, fillE, nilB, isNil, Nat.reduceEqDiff, Nat.reduceAdd, Nat.reduceLT, Nat.reduceLeDiff, Int.reduceNeg, Int.reduceToNat, reduceCtorEq, decide_true, decide_false, encG, encS]
  have hw := mo_written g hg hf [-1 - n] (by simp) (fun x hx => by simp at hx; subst hx; exact ⟨by unfold In64; omega, fun _ => by omega⟩) 1048576 (.sl m 0 1 1) (View.set (fun _ => .dead) m (.arr 1 [[gi (-1 - n)]])) (.inr ⟨m, -1 - n, rfl, by omega, rfl, by simp [View.set]⟩)
  simp only [encG, encS] at hw
  refine CallG.loud (hw.mono ?_)
  have hb := noPlan_sum (plansG g) [-1 - n] zeroP
  have e : nonN (-1 - n) = n.toNat := by unfold nonN; omega
  simp only [noPlan, List.any_cons, List.any_nil, Bool.or_false, decide_eq_true (show -1 - n < 0 by omega), Bool.true_and, e] at hb
  have hpos : PosP (pAt (plansG g) n.toNat) := stage_pos g _ _
  unfold PosP at hpos
  rintro r H1 (⟨h2, rfl⟩ | ⟨h2, h3, rfl⟩ | ⟨h2, h3, b, rfl, ur, uw, ho⟩)
  · simp (disch := omega) only [↓wr, ↓reduceIte, wq, eq_self, ne_eq, implies_true, oneV, intOp, goI, splice, sBuild, fillE, nilB, isNil, Nat.reduceEqDiff, Nat.reduceAdd, Nat.reduceLT, Nat.reduceLeDiff, Int.reduceNeg, Int.reduceToNat, reduceCtorEq, decide_true, decide_false, nilP]
    refine GoB.ne (fun _ => ?_) (fun hc => absurd hc (by decide))
    simp (disch := omega) only [↓wr, ↓reduceIte, wq, eq_self, ne_eq, implies_true, oneV, intOp, goI, splice, sBuild, fillE, nilB, isNil, Nat.reduceEqDiff, Nat.reduceAdd, Nat.reduceLT, Nat.reduceLeDiff, Int.reduceNeg, Int.reduceToNat, reduceCtorEq, decide_true, decide_false, nilP]
    rw [hb] at h2
    rw [if_pos (by simpa using h2)] at hA
    intro h' _
    rw [hA]; exact frn_outA (x := ([], 9)) (.emp _)
  · simp (disch := omega) only [↓wr, ↓reduceIte, wq, eq_self, ne_eq, implies_true, oneV, intOp, goI, splice, sBuild, fillE, nilB, isNil, Nat.reduceEqDiff, Nat.reduceAdd, Nat.reduceLT, Nat.reduceLeDiff, Int.reduceNeg, Int.reduceToNat, reduceCtorEq, decide_true, decide_false, nilP]
    refine GoB.ne (fun _ => ?_) (fun hc => absurd hc (by decide))
    simp (disch := omega) only [↓wr, ↓reduceIte, wq, eq_self, ne_eq, implies_true, oneV, intOp, goI, splice, sBuild, fillE, nilB, isNil, Nat.reduceEqDiff, Nat.reduceAdd, Nat.reduceLT, Nat.reduceLeDiff, Int.reduceNeg, Int.reduceToNat, reduceCtorEq, decide_true, decide_false, nilP]
    rw [hb] at h2
    have hk : ¬ (pAt (plansG g) n.toNat).rule < 0 := by simpa using h2
    obtain ⟨s1, s2⟩ := sum_one h0 (show Known (plansG g) n.toNat by unfold Known; omega)
    rw [if_neg hk, if_pos (by omega)] at hA
    intro h' _
    rw [hA]; exact frn_outA (x := ([], 13)) (.emp _)
  · rw [hb] at h2
    have hk : ¬ (pAt (plansG g) n.toNat).rule < 0 := by simpa using h2
    obtain ⟨s1, s2⟩ := sum_one h0 (show Known (plansG g) n.toNat by unfold Known; omega)
    rw [if_neg hk, if_neg (by omega)] at hA
    have hbo := ho.is 0 rfl (by simp)
    simp (disch := omega) only [↓wr, ↓reduceIte, wq, eq_self, ne_eq, implies_true, oneV, intOp, goI, splice, sBuild, fillE, nilB, isNil, Nat.reduceEqDiff, Nat.reduceAdd, Nat.reduceLT, Nat.reduceLeDiff, Int.reduceNeg, Int.reduceToNat, reduceCtorEq, decide_true, decide_false, hbo, encW]
    refine GoB.ne (fun hc => absurd rfl hc) (fun _ => ?_)
    simp (disch := omega) only [↓wr, ↓reduceIte, wq, eq_self, ne_eq, implies_true, oneV, intOp, goI, splice, sBuild, fillE, nilB, isNil, Nat.reduceEqDiff, Nat.reduceAdd, Nat.reduceLT, Nat.reduceLeDiff, Int.reduceNeg, Int.reduceToNat, reduceCtorEq, decide_true, decide_false, hbo, encW]
    intro h' hh
    rw [hA]; exact frn_outA (x := (_, 0)) (frn_ints (by rw [hh]; exact ho.own 1 rfl))

theorem pc_lWord1 (g : Gram) (x : Int) (hx : In64 x) : PCall Tryz.prog 63 [gi x, .fptr (encG g) 0] (gb (!hasG g x)) := by
  refine PCall.val (by
    intro v hv; simp at hv
    rcases hv with rfl | rfl
    · exact .val _
    · exact fptr_tree (encG_tree g)) fun H => ?_
  refine MCall.of mixed S_least_Word_1_ok ?_
  simp (disch := omega) only [↓wr, ↓reduceIte, wq, eq_self, ne_eq, implies_true, oneV, intOp, goI, splice, sBuild, fillE, nilB, isNil, Nat.reduceEqDiff, Nat.reduceAdd, Nat.reduceLT, Nat.reduceLeDiff, Int.reduceNeg, Int.reduceToNat, reduceCtorEq, decide_true, decide_false, S_least_Word_1, encG, encS]
  refine CallG.pure (pc_cHas g x hx) (by kernel_rfl) ?_
  simp (disch := omega) only [↓wr, ↓reduceIte, wq, eq_self, ne_eq, implies_true, oneV, intOp, goI, splice, sBuild, fillE, nilB, isNil, Nat.reduceEqDiff, Nat.reduceAdd, Nat.reduceLT, Nat.reduceLeDiff, Int.reduceNeg, Int.reduceToNat, reduceCtorEq, decide_true, decide_false]

set_option maxHeartbeats 4000000 in
theorem pn_lWord (g : Gram) (hg : g.Ok) (hs : g.Small) (l : List Int) (hl : l.length ≤ 50) (hn : ∀ x ∈ l, In64 x) : PNew Tryz.prog 38 [.agg (encG g), encI l] (outA (wordA g l)) := by
  have hsl : Short l := by unfold Short; omega
  refine PNew.of (by
    intro v hv; simp at hv
    rcases hv with rfl | rfl
    · exact tree_agg _ (encG_tree g)
    · exact encI_tree l) ?_
  refine MCall.of mixed S_least_Word_ok ?_
  simp (disch := omega) only [↓wr, ↓reduceIte, wq, eq_self, ne_eq, implies_true, oneV, intOp, goI, splice, sBuild, fillE, nilB, isNil, Nat.reduceEqDiff, Nat.reduceAdd, Nat.reduceLT, Nat.reduceLeDiff, Int.reduceNeg, Int.reduceToNat, reduceCtorEq, decide_true, decide_false, S_least_Word, encG, encS]
  refine CallG.pure (pc_cRight g hg hs.names) (by kernel_rfl) ?_
  have bad : ∀ h' : Heap, (right09 g && l.all (hasG g)) = false → FrN h' (.tup [.emp 1, gi 1]) (outA (wordA g l)) := fun h' e => by
    unfold wordA; rw [if_neg (by rw [e]; simp)]; exact frn_outA (x := ([], 1)) (.emp _)
  have hcf := pc_ContainsFuncI l hsl 63 [.fptr (encG g) 0] (by intro v hv; simp at hv; subst hv; exact fptr_tree (encG_tree g)) (fun x => !hasG g x) (fun x hx => pc_lWord1 g x (hn x hx)) (by kernel_rfl)
  simp only [encG, encS] at hcf
  simp (disch := omega) only [↓wr, ↓reduceIte, wq, eq_self, ne_eq, implies_true, oneV, intOp, goI, splice, sBuild, fillE, nilB, isNil, Nat.reduceEqDiff, Nat.reduceAdd, Nat.reduceLT, Nat.reduceLeDiff, Int.reduceNeg, Int.reduceToNat, reduceCtorEq, decide_true, decide_false, encG, encS]
  refine GoB.split (fun hr => ?_) (fun hr => ?_)
  · simp (disch := omega) only [↓wr, ↓reduceIte, wq, eq_self, ne_eq, implies_true, oneV, intOp, goI, splice, sBuild, fillE, nilB, isNil, Nat.reduceEqDiff, Nat.reduceAdd, Nat.reduceLT, Nat.reduceLeDiff, Int.reduceNeg, Int.reduceToNat, reduceCtorEq, decide_true, decide_false, encG, encS]
    refine CallG.pure hcf (by kernel_rfl) ?_
    have hany : l.any (fun x => !hasG g x) = !l.all (hasG g) := by rw [List.not_all_eq_any_not]
    rw [hany]
    simp (disch := omega) only [↓wr, ↓reduceIte, wq, eq_self, ne_eq, implies_true, oneV, intOp, goI, splice, sBuild, fillE, nilB, isNil, Nat.reduceEqDiff, Nat.reduceAdd, Nat.reduceLT, Nat.reduceLeDiff, Int.reduceNeg, Int.reduceToNat, reduceCtorEq, decide_true, decide_false, encG, encS]
    refine GoB.split (fun hall => ?_) (fun hall => ?_)
    · have hf := right09_fine hr
      have hA : wordA g l = _ := if_pos (by rw [hr, hall]; rfl)
      simp (disch := omega) only [↓wr, ↓reduceIte, wq, eq_self, ne_eq, implies_true, oneV, intOp, goI, splice, sBuild, fillE, nilB, isNil, Nat.reduceEqDiff, Nat.reduceAdd, Nat.reduceLT, Nat.reduceLeDiff, Int.reduceNeg, Int.reduceToNat, reduceCtorEq, decide_true, decide_false, encG, encS]
      have hin : ∀ x ∈ l, In64 x ∧ (x < 0 → -1 - x < g.nons.length) := fun x hx => ⟨hn x hx, fun hx0 => by
        have := List.all_eq_true.1 hall x hx
        unfold hasG at this
        rw [if_neg (by omega)] at this
        simpa using this⟩
      have hw := mo_written g hg hf l hl hin 60 (encI l) (fun _ => .dead) (.inl rfl)
      simp only [encG, encS] at hw
      refine CallG.loud (hw.mono ?_)
      rintro r H1 (⟨h2, rfl⟩ | ⟨h2, h3, rfl⟩ | ⟨h2, h3, b, rfl, ur, uw, ho⟩)
      · simp (disch := omega) only [↓wr, ↓reduceIte, wq, eq_self, ne_eq, implies_true, oneV, intOp, goI, splice, sBuild, fillE, nilB, isNil, Nat.reduceEqDiff, Nat.reduceAdd, Nat.reduceLT, Nat.reduceLeDiff, Int.reduceNeg, Int.reduceToNat, reduceCtorEq, decide_true, decide_false, nilP]
        refine GoB.ne (fun _ => ?_) (fun hc => absurd hc (by decide))
        simp (disch := omega) only [↓wr, ↓reduceIte, wq, eq_self, ne_eq, implies_true, oneV, intOp, goI, splice, sBuild, fillE, nilB, isNil, Nat.reduceEqDiff, Nat.reduceAdd, Nat.reduceLT, Nat.reduceLeDiff, Int.reduceNeg, Int.reduceToNat, reduceCtorEq, decide_true, decide_false, nilP]
        rw [if_pos h2] at hA
        intro h' _
        rw [hA]; exact frn_outA (x := ([], 9)) (.emp _)
      · simp (disch := omega) only [↓wr, ↓reduceIte, wq, eq_self, ne_eq, implies_true, oneV, intOp, goI, splice, sBuild, fillE, nilB, isNil, Nat.reduceEqDiff, Nat.reduceAdd, Nat.reduceLT, Nat.reduceLeDiff, Int.reduceNeg, Int.reduceToNat, reduceCtorEq, decide_true, decide_false, nilP]
        refine GoB.ne (fun _ => ?_) (fun hc => absurd hc (by decide))
        simp (disch := omega) only [↓wr, ↓reduceIte, wq, eq_self, ne_eq, implies_true, oneV, intOp, goI, splice, sBuild, fillE, nilB, isNil, Nat.reduceEqDiff, Nat.reduceAdd, Nat.reduceLT, Nat.reduceLeDiff, Int.reduceNeg, Int.reduceToNat, reduceCtorEq, decide_true, decide_false, nilP]
        rw [if_neg (by rw [h2]; simp), if_pos h3] at hA
        intro h' _
        rw [hA]; exact frn_outA (x := ([], 13)) (.emp _)
      · rw [if_neg (by rw [h2]; simp), if_neg h3] at hA
        have hbo := ho.is 0 rfl (by simp)
        simp (disch := omega) only [↓wr, ↓reduceIte, wq, eq_self, ne_eq, implies_true, oneV, intOp, goI, splice, sBuild, fillE, nilB, isNil, Nat.reduceEqDiff, Nat.reduceAdd, Nat.reduceLT, Nat.reduceLeDiff, Int.reduceNeg, Int.reduceToNat, reduceCtorEq, decide_true, decide_false, hbo, encW]
        refine GoB.ne (fun hc => absurd rfl hc) (fun _ => ?_)
        simp (disch := omega) only [↓wr, ↓reduceIte, wq, eq_self, ne_eq, implies_true, oneV, intOp, goI, splice, sBuild, fillE, nilB, isNil, Nat.reduceEqDiff, Nat.reduceAdd, Nat.reduceLT, Nat.reduceLeDiff, Int.reduceNeg, Int.reduceToNat, reduceCtorEq, decide_true, decide_false, hbo, encW]
        intro h' hh
        rw [hA]; exact frn_outA (x := (_, 0)) (frn_ints (by rw [hh]; exact ho.own 2 rfl))
    · simp (disch := omega) only [↓wr, ↓reduceIte, wq, eq_self, ne_eq, implies_true, oneV, intOp, goI, splice, sBuild, fillE, nilB, isNil, Nat.reduceEqDiff, Nat.reduceAdd, Nat.reduceLT, Nat.reduceLeDiff, Int.reduceNeg, Int.reduceToNat, reduceCtorEq, decide_true, decide_false, encG, encS]
      intro h' _
      exact bad h' (by rw [hall, Bool.and_false])
  · simp (disch := omega) only [↓wr, ↓reduceIte, wq, eq_self, ne_eq, implies_true, oneV, intOp, goI, splice, sBuild, fillE, nilB, isNil, Nat.reduceEqDiff, Nat.reduceAdd, Nat.reduceLT, Nat.reduceLeDiff, Int.reduceNeg, Int.reduceToNat, reduceCtorEq, decide_true, decide_false, encG, encS]
    intro h' _
    exact bad h' (by rw [hr, Bool.false_and])
end Gv

/-
  What the reader answers at the fixed texts of the ones on least trees.
  Conditions: none.
-/
set_option linter.unusedSimpArgs false
set_option maxRecDepth 100000
namespace Gv
open Go Go.Proofs
def text3 : List Int := [37, 37, 32, 115, 32, 58, 32, 115, 32, 39, 97, 39, 32, 124, 32, 116, 32, 59, 32, 116, 32, 58, 32, 39, 98, 39, 32, 59]
def text4 : List Int := [37, 37, 32, 97, 32, 58, 32, 98, 32, 98, 32, 98, 32, 98, 32, 98, 32, 98, 32, 59, 32, 98, 32, 58, 32, 99, 32, 99, 32, 99, 32, 99, 32, 99, 32, 99, 32, 59, 32, 99, 32, 58, 32, 100, 32, 100, 32, 100, 32, 100, 32, 100, 32, 100, 32, 59, 32, 100, 32, 58, 32, 39, 100, 39, 32, 59]
def gram3 : Gram := ⟨[⟨⟨#[39, 97, 39]⟩, 0, 0⟩, ⟨⟨#[39, 98, 39]⟩, 0, 0⟩], [⟨#[115]⟩, ⟨#[116]⟩], [⟨0, [(-1), 0], 0⟩, ⟨0, [(-2)], (-1)⟩, ⟨1, [1], 1⟩], 0⟩
def gram4 : Gram := ⟨[⟨⟨#[39, 100, 39]⟩, 0, 0⟩], [⟨#[97]⟩, ⟨#[98]⟩, ⟨#[99]⟩, ⟨#[100]⟩], [⟨0, [(-2), (-2), (-2), (-2), (-2), (-2)], (-1)⟩, ⟨1, [(-3), (-3), (-3), (-3), (-3), (-3)], (-1)⟩, ⟨2, [(-4), (-4), (-4), (-4), (-4), (-4)], (-1)⟩, ⟨3, [0], 0⟩], 0⟩
theorem read3 : PNew Tryz.prog 40 [encY text3] (readOut gram3) := read_of (by kernel_rfl)
theorem read4 : PNew Tryz.prog 40 [encY text4] (readOut gram4) := read_of (by kernel_rfl)

theorem gram3_ok : gram3.Ok := by
  refine ⟨by unfold Short; decide, by unfold Short; decide, by unfold Short; decide, by unfold In64; decide, ?_, ?_⟩
  · intro t ht; simp [gram3] at ht; rcases ht with rfl | rfl <;> unfold In64 <;> decide
  · intro r hr; simp [gram3] at hr; rcases hr with rfl | rfl | rfl <;> unfold In64 Short <;> decide
theorem gram4_ok : gram4.Ok := by
  refine ⟨by unfold Short; decide, by unfold Short; decide, by unfold Short; decide, by unfold In64; decide, ?_, ?_⟩
  · intro t ht; simp [gram4] at ht; rcases ht with rfl; unfold In64; decide
  · intro r hr; simp [gram4] at hr; rcases hr with rfl | rfl | rfl | rfl <;> unfold In64 Short <;> decide
theorem gram3_small : gram3.Small := ⟨by decide⟩
theorem gram4_small : gram4.Small := ⟨by decide⟩
theorem g3r : right09 gram3 = true := by kernel_rfl
theorem g3h : hgts (plansG gram3) = [2, 1] := by kernel_rfl
theorem g3u : rulesP gram3 = [1, 2] := by kernel_rfl
theorem g3t : treeA gram3 0 = ([1, 2], 0) := by kernel_rfl
theorem g3w : wordA gram3 [(-1), 0] = ([1, 0], 0) := by kernel_rfl
theorem g4t : (treeA gram4 0).2 = 0 := by kernel_rfl
theorem g4w : wordA gram4 [(-2), (-2)] = ([], 13) := by kernel_rfl
end Gv

/-
  The fixed fact of the laws on least trees.
  Conditions: none.
-/
set_option linter.unusedSimpArgs false
set_option maxRecDepth 100000
namespace Gv
open Go Go.Proofs

/-- A call after which only so much is known of the store. -/
theorem CallG.pureAt {P : Program} {q : Bool} {f : FuncId} {H : View} {vs : List V} {K : V → View → Prop} {v : Veil (H, K)} {t : V} (Φ : View → Prop) (hc : PCall P f vs t) (hok : calleeOk P f = true) (hΦ : Φ H) (hk : ∀ H, Φ H → K t H) : CallG P q f vs H K v :=
  CallG.pure hc hok (hk H hΦ)
theorem CallG.lendNAt {P : Program} {q : Bool} {f : FuncId} {H : View} {vs ts : List V} {K : V → View → Prop} {v : Veil (H, K)} {t : V} (Φ : View → Prop) (hc : PNew P f ts t) (hok : calleeOk P f = true) (hl : Lents H vs ts) (hΦ : Φ H) (hk : ∀ H, Φ H → K t H) : CallG P q f vs H K v :=
  CallG.lendN hc hok hl (hk H hΦ)

def S_gerundlaw14_alive : SF := ⟨.seq (.region false [⟨none, [((some 0), .op (.mov (.val (.val (.bool false)))))]⟩]) <|
  .seq (.region false [⟨none, [((some 16), .op (.bslice 28 1 [(.val (.int .u8 0))] [(0, (.val (.val (.int .u8 37)))), (1, (.val (.val (.int .u8 37)))), (2, (.val (.val (.int .u8 32)))), (3, (.val (.val (.int .u8 115)))), (4, (.val (.val (.int .u8 32)))), (5, (.val (.val (.int .u8 58)))), (6, (.val (.val (.int .u8 32)))), (7, (.val (.val (.int .u8 115)))), (8, (.val (.val (.int .u8 32)))), (9, (.val (.val (.int .u8 39)))), (10, (.val (.val (.int .u8 97)))), (11, (.val (.val (.int .u8 39)))), (12, (.val (.val (.int .u8 32)))), (13, (.val (.val (.int .u8 124)))), (14, (.val (.val (.int .u8 32)))), (15, (.val (.val (.int .u8 116)))), (16, (.val (.val (.int .u8 32)))), (17, (.val (.val (.int .u8 59)))), (18, (.val (.val (.int .u8 32)))), (19, (.val (.val (.int .u8 116)))), (20, (.val (.val (.int .u8 32)))), (21, (.val (.val (.int .u8 58)))), (22, (.val (.val (.int .u8 32)))), (23, (.val (.val (.int .u8 39)))), (24, (.val (.val (.int .u8 98)))), (25, (.val (.val (.int .u8 39)))), (26, (.val (.val (.int .u8 32)))), (27, (.val (.val (.int .u8 59))))])), ((some 17), .op (.old (.convert 53 53 (.tmp 16)) 53)), ((some 18), .call (.val (.fn 40 [] [])) [(.tmp 17)]), ((some 15), .op (.mov (.tmp 18))), ((some 19), .op (.ext 0 (.tmp 15))), ((some 20), .op (.ext 1 (.tmp 15))), ((some 21), .op (.ext 2 (.tmp 15))), ((some 1), .op (.alloc [(.emp 1), (.emp 1), (.emp 1), (.val (.int .i64 0))])), (none, .op (.store 4 (.tmp 1) (.tmp 19))), ((some 2), .op (.mov (.tmp 20))), ((some 3), .op (.mov (.tmp 21)))]⟩]) <|
  .seq (.region false [⟨none, [((some 23), .op (.bslice 66 1 [(.val (.int .u8 0))] [(0, (.val (.val (.int .u8 37)))), (1, (.val (.val (.int .u8 37)))), (2, (.val (.val (.int .u8 32)))), (3, (.val (.val (.int .u8 97)))), (4, (.val (.val (.int .u8 32)))), (5, (.val (.val (.int .u8 58)))), (6, (.val (.val (.int .u8 32)))), (7, (.val (.val (.int .u8 98)))), (8, (.val (.val (.int .u8 32)))), (9, (.val (.val (.int .u8 98)))), (10, (.val (.val (.int .u8 32)))), (11, (.val (.val (.int .u8 98)))), (12, (.val (.val (.int .u8 32)))), (13, (.val (.val (.int .u8 98)))), (14, (.val (.val (.int .u8 32)))), (15, (.val (.val (.int .u8 98)))), (16, (.val (.val (.int .u8 32)))), (17, (.val (.val (.int .u8 98)))), (18, (.val (.val (.int .u8 32)))), (19, (.val (.val (.int .u8 59)))), (20, (.val (.val (.int .u8 32)))), (21, (.val (.val (.int .u8 98)))), (22, (.val (.val (.int .u8 32)))), (23, (.val (.val (.int .u8 58)))), (24, (.val (.val (.int .u8 32)))), (25, (.val (.val (.int .u8 99)))), (26, (.val (.val (.int .u8 32)))), (27, (.val (.val (.int .u8 99)))), (28, (.val (.val (.int .u8 32)))), (29, (.val (.val (.int .u8 99)))), (30, (.val (.val (.int .u8 32)))), (31, (.val (.val (.int .u8 99)))), (32, (.val (.val (.int .u8 32)))), (33, (.val (.val (.int .u8 99)))), (34, (.val (.val (.int .u8 32)))), (35, (.val (.val (.int .u8 99)))), (36, (.val (.val (.int .u8 32)))), (37, (.val (.val (.int .u8 59)))), (38, (.val (.val (.int .u8 32)))), (39, (.val (.val (.int .u8 99)))), (40, (.val (.val (.int .u8 32)))), (41, (.val (.val (.int .u8 58)))), (42, (.val (.val (.int .u8 32)))), (43, (.val (.val (.int .u8 100)))), (44, (.val (.val (.int .u8 32)))), (45, (.val (.val (.int .u8 100)))), (46, (.val (.val (.int .u8 32)))), (47, (.val (.val (.int .u8 100)))), (48, (.val (.val (.int .u8 32)))), (49, (.val (.val (.int .u8 100)))), (50, (.val (.val (.int .u8 32)))), (51, (.val (.val (.int .u8 100)))), (52, (.val (.val (.int .u8 32)))), (53, (.val (.val (.int .u8 100)))), (54, (.val (.val (.int .u8 32)))), (55, (.val (.val (.int .u8 59)))), (56, (.val (.val (.int .u8 32)))), (57, (.val (.val (.int .u8 100)))), (58, (.val (.val (.int .u8 32)))), (59, (.val (.val (.int .u8 58)))), (60, (.val (.val (.int .u8 32)))), (61, (.val (.val (.int .u8 39)))), (62, (.val (.val (.int .u8 100)))), (63, (.val (.val (.int .u8 39)))), (64, (.val (.val (.int .u8 32)))), (65, (.val (.val (.int .u8 59))))])), ((some 24), .op (.old (.convert 53 53 (.tmp 23)) 53)), ((some 25), .call (.val (.fn 40 [] [])) [(.tmp 24)]), ((some 22), .op (.mov (.tmp 25))), ((some 26), .op (.ext 0 (.tmp 22))), ((some 27), .op (.ext 1 (.tmp 22))), ((some 28), .op (.ext 2 (.tmp 22))), ((some 4), .op (.alloc [(.emp 1), (.emp 1), (.emp 1), (.val (.int .i64 0))])), (none, .op (.store 4 (.tmp 4) (.tmp 26))), ((some 5), .op (.mov (.tmp 27))), ((some 6), .op (.mov (.tmp 28)))]⟩]) <|
  .seq (.region false [⟨none, [((some 30), .op (.load (some 4) (.tmp 1))), ((some 31), .call (.val (.fn 36 [] [])) [(.tmp 30), (.val (.val (.int .i64 0)))]), ((some 29), .op (.mov (.tmp 31))), ((some 32), .op (.ext 0 (.tmp 29))), ((some 33), .op (.ext 1 (.tmp 29))), ((some 7), .op (.mov (.tmp 32))), ((some 8), .op (.mov (.tmp 33)))]⟩]) <|
  .seq (.region false [⟨none, [((some 35), .op (.load (some 4) (.tmp 1))), ((some 36), .op (.bslice 2 1 [(.val (.int .i64 0))] [(0, (.val (.val (.int .i64 (-1))))), (1, (.val (.val (.int .i64 0))))])), ((some 37), .call (.val (.fn 38 [] [])) [(.tmp 35), (.tmp 36)]), ((some 34), .op (.mov (.tmp 37))), ((some 38), .op (.ext 0 (.tmp 34))), ((some 39), .op (.ext 1 (.tmp 34))), ((some 9), .op (.mov (.tmp 38))), ((some 10), .op (.mov (.tmp 39)))]⟩]) <|
  .seq (.region false [⟨none, [((some 41), .op (.load (some 4) (.tmp 4))), ((some 42), .call (.val (.fn 36 [] [])) [(.tmp 41), (.val (.val (.int .i64 0)))]), ((some 40), .op (.mov (.tmp 42))), ((some 43), .op (.ext 0 (.tmp 40))), ((some 44), .op (.ext 1 (.tmp 40))), ((some 11), .op (.mov (.tmp 43))), ((some 12), .op (.mov (.tmp 44)))]⟩]) <|
  .seq (.region false [⟨none, [((some 46), .op (.load (some 4) (.tmp 4))), ((some 47), .op (.bslice 2 1 [(.val (.int .i64 0))] [(0, (.val (.val (.int .i64 (-2))))), (1, (.val (.val (.int .i64 (-2)))))])), ((some 48), .call (.val (.fn 38 [] [])) [(.tmp 46), (.tmp 47)]), ((some 45), .op (.mov (.tmp 48))), ((some 49), .op (.ext 0 (.tmp 45))), ((some 50), .op (.ext 1 (.tmp 45))), ((some 13), .op (.mov (.tmp 49))), ((some 14), .op (.mov (.tmp 50)))]⟩]) <|
  .seq (.region false [⟨none, [((some 51), .op (.mov (.tmp 8))), ((some 52), .op (.arith .eql (.tmp 51) (.val (.val (.int .i64 0))))), ((some 53), .op (.mov (.tmp 52)))]⟩, ⟨(some (53, true)), [((some 54), .op (.mov (.tmp 10))), ((some 55), .op (.arith .eql (.tmp 54) (.val (.val (.int .i64 0)))))]⟩, ⟨none, [((some 56), .op (.pick (.tmp 53) (.tmp 55) (.val (.val (.bool false))))), ((some 57), .op (.mov (.tmp 56)))]⟩, ⟨(some (57, true)), [((some 58), .op (.mov (.tmp 12))), ((some 59), .op (.arith .eql (.tmp 58) (.val (.val (.int .i64 0)))))]⟩, ⟨none, [((some 60), .op (.pick (.tmp 57) (.tmp 59) (.val (.val (.bool false))))), ((some 61), .op (.mov (.tmp 60)))]⟩, ⟨(some (61, true)), [((some 62), .op (.mov (.tmp 14))), ((some 63), .op (.arith .eql (.tmp 62) (.val (.val (.int .i64 13)))))]⟩, ⟨none, [((some 64), .op (.pick (.tmp 61) (.tmp 63) (.val (.val (.bool false))))), ((some 65), .op (.mov (.tmp 64)))]⟩, ⟨(some (65, true)), [((some 66), .op (.load (some 4) (.tmp 1))), ((some 67), .call (.val (.fn 32 [] [])) [(.tmp 66)]), ((some 68), .op (.bslice 2 1 [(.val (.int .i64 0))] [(0, (.val (.val (.int .i64 2)))), (1, (.val (.val (.int .i64 1))))])), ((some 69), .call (.val (.fn 27 [] [])) [(.tmp 67), (.tmp 68)])]⟩, ⟨none, [((some 70), .op (.pick (.tmp 65) (.tmp 69) (.val (.val (.bool false))))), ((some 71), .op (.mov (.tmp 70)))]⟩, ⟨(some (71, true)), [((some 72), .op (.load (some 4) (.tmp 1))), ((some 73), .call (.val (.fn 34 [] [])) [(.tmp 72)]), ((some 74), .op (.bslice 2 1 [(.val (.int .i64 0))] [(0, (.val (.val (.int .i64 1)))), (1, (.val (.val (.int .i64 2))))])), ((some 75), .call (.val (.fn 27 [] [])) [(.tmp 73), (.tmp 74)])]⟩, ⟨none, [((some 76), .op (.pick (.tmp 71) (.tmp 75) (.val (.val (.bool false))))), ((some 77), .op (.mov (.tmp 76)))]⟩, ⟨(some (77, true)), [((some 78), .op (.mov (.tmp 7))), ((some 79), .op (.bslice 2 1 [(.val (.int .i64 0))] [(0, (.val (.val (.int .i64 1)))), (1, (.val (.val (.int .i64 2))))])), ((some 80), .call (.val (.fn 27 [] [])) [(.tmp 78), (.tmp 79)])]⟩, ⟨none, [((some 81), .op (.pick (.tmp 77) (.tmp 80) (.val (.val (.bool false))))), ((some 82), .op (.mov (.tmp 81)))]⟩, ⟨(some (82, true)), [((some 83), .op (.mov (.tmp 9))), ((some 84), .op (.bslice 2 1 [(.val (.int .i64 0))] [(0, (.val (.val (.int .i64 1)))), (1, (.val (.val (.int .i64 0))))])), ((some 85), .call (.val (.fn 27 [] [])) [(.tmp 83), (.tmp 84)])]⟩, ⟨none, [((some 86), .op (.pick (.tmp 82) (.tmp 85) (.val (.val (.bool false))))), ((some 0), .op (.mov (.tmp 86)))]⟩]) <|
  .ret,
  [.tmp 0], 87⟩
theorem S_gerundlaw14_alive_ok : compF Tryz.prog 31 [] = some S_gerundlaw14_alive := by kernel_rfl

set_option maxHeartbeats 4000000 in
theorem pc_alive14_of (g1 g2 : Gram) (k1 : g1.Ok) (k2 : g2.Ok) (s1 : g1.Small) (s2 : g2.Small) (h1 : PNew Tryz.prog 40 [encY text3] (readOut g1)) (h2 : PNew Tryz.prog 40 [encY text4] (readOut g2))
    (hr : right09 g1 = true) (e1 : hgts (plansG g1) = [2, 1]) (e2 : rulesP g1 = [1, 2]) (e3 : treeA g1 0 = ([1, 2], 0)) (e4 : wordA g1 [(-1), 0] = ([1, 0], 0)) (e5 : (treeA g2 0).2 = 0) (e6 : wordA g2 [(-2), (-2)] = ([], 13)) : PCall Tryz.prog 31 [] (gb true) := by
  refine PCall.val (by simp) fun H => ?_
  refine MCall.of mixed S_gerundlaw14_alive_ok ?_
  simp (disch := omega) only [↓wr, ↓reduceIte, wq, eq_self, ne_eq, implies_true, oneV, intOp, goI, splice, sBuild, fillE, nilB, isNil, Nat.reduceEqDiff, Nat.reduceAdd, Nat.reduceLT, Nat.reduceLeDiff, Int.reduceNeg, Int.reduceToNat, reduceCtorEq, decide_true, decide_false, S_gerundlaw14_alive]
  intro n1 hn1
  try simp (disch := omega) only [↓wr, ↓reduceIte, wq, eq_self, ne_eq, implies_true, oneV, intOp, goI, splice, sBuild, fillE, nilB, isNil, Nat.reduceEqDiff, Nat.reduceAdd, Nat.reduceLT, Nat.reduceLeDiff, Int.reduceNeg, Int.reduceToNat, reduceCtorEq, decide_true, decide_false]
  generalize t1 : text3.map (fun x => [gy x]) = es1
  have t1' := t1
  simp only [text3, List.map_cons, List.map_nil] at t1'
  rw [t1']
  refine oldConvSame (id := n1) (len := 28) Tryz.underlying53 Tryz.underlying5 rfl (by omega) (by simp only [View.set, if_true]; rfl) ?_
  simp (disch := omega) only [↓wr, ↓reduceIte, wq, eq_self, ne_eq, implies_true, oneV, intOp, goI, splice, sBuild, fillE, nilB, isNil, Nat.reduceEqDiff, Nat.reduceAdd, Nat.reduceLT, Nat.reduceLeDiff, Int.reduceNeg, Int.reduceToNat, reduceCtorEq, decide_true, decide_false]
  refine CallG.lendN h1 (by kernel_rfl) ⟨lent_bytes text3 (by simp only [View.set, if_true, t1]), trivial⟩ ?_
  clear t1 t1' hn1
  generalize H.set n1 (AObj.arr 1 es1) = H1
  clear H
  simp (disch := omega) only [↓wr, ↓reduceIte, wq, eq_self, ne_eq, implies_true, oneV, intOp, goI, splice, sBuild, fillE, nilB, isNil, Nat.reduceEqDiff, Nat.reduceAdd, Nat.reduceLT, Nat.reduceLeDiff, Int.reduceNeg, Int.reduceToNat, reduceCtorEq, decide_true, decide_false, readOut, encG, encS]
  intro n2 hn2
  try simp (disch := omega) only [↓wr, ↓reduceIte, wq, eq_self, ne_eq, implies_true, oneV, intOp, goI, splice, sBuild, fillE, nilB, isNil, Nat.reduceEqDiff, Nat.reduceAdd, Nat.reduceLT, Nat.reduceLeDiff, Int.reduceNeg, Int.reduceToNat, reduceCtorEq, decide_true, decide_false]
  intro n3 hn3
  have d32 := (dead_if hn3 arr_live).1
  try simp (disch := omega) only [↓wr, ↓reduceIte, wq, eq_self, ne_eq, implies_true, oneV, intOp, goI, splice, sBuild, fillE, nilB, isNil, Nat.reduceEqDiff, Nat.reduceAdd, Nat.reduceLT, Nat.reduceLeDiff, Int.reduceNeg, Int.reduceToNat, reduceCtorEq, decide_true, decide_false]
  generalize t1 : text4.map (fun x => [gy x]) = es2
  have t1' := t1
  simp only [text4, List.map_cons, List.map_nil] at t1'
  rw [t1']
  refine oldConvSame (id := n3) (len := 66) Tryz.underlying53 Tryz.underlying5 rfl (by omega) (by simp only [View.set, if_true]; rfl) ?_
  simp (disch := omega) only [↓wr, ↓reduceIte, wq, eq_self, ne_eq, implies_true, oneV, intOp, goI, splice, sBuild, fillE, nilB, isNil, Nat.reduceEqDiff, Nat.reduceAdd, Nat.reduceLT, Nat.reduceLeDiff, Int.reduceNeg, Int.reduceToNat, reduceCtorEq, decide_true, decide_false]
  refine CallG.lendN h2 (by kernel_rfl) ⟨lent_bytes text4 (by simp only [View.set, if_true, t1]), trivial⟩ ?_
  clear t1 t1'
  simp (disch := omega) only [↓wr, ↓reduceIte, wq, eq_self, ne_eq, implies_true, oneV, intOp, goI, splice, sBuild, fillE, nilB, isNil, Nat.reduceEqDiff, Nat.reduceAdd, Nat.reduceLT, Nat.reduceLeDiff, Int.reduceNeg, Int.reduceToNat, reduceCtorEq, decide_true, decide_false, readOut, encG, encS]
  intro n4 hn4
  have d43 := (dead_if hn4 arr_live).1
  have d42 := (dead_if (dead_if hn4 arr_live).2 arr_live).1
  try simp (disch := omega) only [↓wr, ↓reduceIte, wq, eq_self, ne_eq, implies_true, oneV, intOp, goI, splice, sBuild, fillE, nilB, isNil, Nat.reduceEqDiff, Nat.reduceAdd, Nat.reduceLT, Nat.reduceLeDiff, Int.reduceNeg, Int.reduceToNat, reduceCtorEq, decide_true, decide_false, d32, d43, d42, d32.symm, d43.symm, d42.symm]
  have ht1 := (pn_lTree g1 k1 s1 0 (by unfold In64; decide)).pure
  rw [e3] at ht1
  refine CallG.pureAt (fun H => H n2 = .arr 4 [encG g1] ∧ H n4 = .arr 4 [encG g2]) ht1 (by kernel_rfl) ⟨by simp [View.set, d42.symm, d32.symm, encG, encS], by simp [View.set, encG, encS]⟩ ?_
  clear hn2 hn3 hn4
  rintro H2 ⟨f2, f4⟩
  simp only [encG, encS] at f2 f4
  simp (disch := omega) only [↓wr, ↓reduceIte, wq, eq_self, ne_eq, implies_true, oneV, intOp, goI, splice, sBuild, fillE, nilB, isNil, Nat.reduceEqDiff, Nat.reduceAdd, Nat.reduceLT, Nat.reduceLeDiff, Int.reduceNeg, Int.reduceToNat, reduceCtorEq, decide_true, decide_false, f2, f4, outA]
  intro n5 hn5
  have d52 : n2 ≠ n5 := by rintro rfl; rw [f2] at hn5; simp at hn5
  have d54 : n4 ≠ n5 := by rintro rfl; rw [f4] at hn5; simp at hn5
  try simp (disch := omega) only [↓wr, ↓reduceIte, wq, eq_self, ne_eq, implies_true, oneV, intOp, goI, splice, sBuild, fillE, nilB, isNil, Nat.reduceEqDiff, Nat.reduceAdd, Nat.reduceLT, Nat.reduceLeDiff, Int.reduceNeg, Int.reduceToNat, reduceCtorEq, decide_true, decide_false, f2, f4, outA]
  have hw1 := pn_lWord g1 k1 s1 [(-1), 0] (by decide) (fun x hx => by simp at hx; rcases hx with rfl | rfl <;> unfold In64 <;> decide)
  rw [e4] at hw1
  refine CallG.lendNAt (fun H => H n2 = .arr 4 [encG g1] ∧ H n4 = .arr 4 [encG g2]) hw1 (by kernel_rfl) ⟨Lent.tree (tree_agg _ (encG_tree g1)), lent_intsL (l := [(-1), 0]) (by simp [View.set]) rfl, trivial⟩ (by simp [View.set, d52, d54, f2, f4, encG, encS]) ?_
  clear hn5 d52 d54 f2 f4 H2
  rintro H2 ⟨f2, f4⟩
  simp only [encG, encS] at f2 f4
  simp (disch := omega) only [↓wr, ↓reduceIte, wq, eq_self, ne_eq, implies_true, oneV, intOp, goI, splice, sBuild, fillE, nilB, isNil, Nat.reduceEqDiff, Nat.reduceAdd, Nat.reduceLT, Nat.reduceLeDiff, Int.reduceNeg, Int.reduceToNat, reduceCtorEq, decide_true, decide_false, f2, f4, outA]
  have ht2 := (pn_lTree g2 k2 s2 0 (by unfold In64; decide)).pure
  generalize treeA g2 0 = y at ht2 e5
  obtain ⟨y1, y2⟩ := y
  simp only at e5
  subst e5
  refine CallG.pure ht2 (by kernel_rfl) ?_
  simp (disch := omega) only [↓wr, ↓reduceIte, wq, eq_self, ne_eq, implies_true, oneV, intOp, goI, splice, sBuild, fillE, nilB, isNil, Nat.reduceEqDiff, Nat.reduceAdd, Nat.reduceLT, Nat.reduceLeDiff, Int.reduceNeg, Int.reduceToNat, reduceCtorEq, decide_true, decide_false, f2, f4, outA]
  intro n6 hn6
  have d62 : n2 ≠ n6 := by rintro rfl; rw [f2] at hn6; simp at hn6
  have d64 : n4 ≠ n6 := by rintro rfl; rw [f4] at hn6; simp at hn6
  try simp (disch := omega) only [↓wr, ↓reduceIte, wq, eq_self, ne_eq, implies_true, oneV, intOp, goI, splice, sBuild, fillE, nilB, isNil, Nat.reduceEqDiff, Nat.reduceAdd, Nat.reduceLT, Nat.reduceLeDiff, Int.reduceNeg, Int.reduceToNat, reduceCtorEq, decide_true, decide_false, f2, f4, outA]
  have hw2 := pn_lWord g2 k2 s2 [(-2), (-2)] (by decide) (fun x hx => by simp at hx; subst hx; unfold In64; decide)
  rw [e6] at hw2
  refine CallG.lendNAt (fun H => H n2 = .arr 4 [encG g1]) hw2 (by kernel_rfl) ⟨Lent.tree (tree_agg _ (encG_tree g2)), lent_intsL (l := [(-2), (-2)]) (by simp [View.set]) rfl, trivial⟩ (by simp [View.set, d62, f2, encG, encS]) ?_
  clear hn6 d62 d64 f2 f4 H2
  intro H2 f2
  simp only [encG, encS] at f2
  simp (disch := omega) only [↓wr, ↓reduceIte, wq, eq_self, ne_eq, implies_true, oneV, intOp, goI, splice, sBuild, fillE, nilB, isNil, Nat.reduceEqDiff, Nat.reduceAdd, Nat.reduceLT, Nat.reduceLeDiff, Int.reduceNeg, Int.reduceToNat, reduceCtorEq, decide_true, decide_false, f2, outA]
  repeat (refine GoB.eq (fun _ => ?_) (fun hc => absurd rfl hc); simp (disch := omega) only [↓wr, ↓reduceIte, wq, eq_self, ne_eq, implies_true, oneV, intOp, goI, splice, sBuild, fillE, nilB, isNil, Nat.reduceEqDiff, Nat.reduceAdd, Nat.reduceLT, Nat.reduceLeDiff, Int.reduceNeg, Int.reduceToNat, reduceCtorEq, decide_true, decide_false, f2, outA])
  have hh := (pn_lHeights g1 k1 s1).pure
  rw [if_pos hr, e1] at hh
  refine CallG.pure hh (by kernel_rfl) ?_
  simp (disch := omega) only [↓wr, ↓reduceIte, wq, eq_self, ne_eq, implies_true, oneV, intOp, goI, splice, sBuild, fillE, nilB, isNil, Nat.reduceEqDiff, Nat.reduceAdd, Nat.reduceLT, Nat.reduceLeDiff, Int.reduceNeg, Int.reduceToNat, reduceCtorEq, decide_true, decide_false, f2]
  intro n7 hn7
  have d72 : n2 ≠ n7 := by rintro rfl; rw [f2] at hn7; simp at hn7
  try simp (disch := omega) only [↓wr, ↓reduceIte, wq, eq_self, ne_eq, implies_true, oneV, intOp, goI, splice, sBuild, fillE, nilB, isNil, Nat.reduceEqDiff, Nat.reduceAdd, Nat.reduceLT, Nat.reduceLeDiff, Int.reduceNeg, Int.reduceToNat, reduceCtorEq, decide_true, decide_false, f2]
  refine CallG.lendAs (fun H => H n2 = .arr 4 [encG g1]) (pc_Ints [2, 1] [2, 1] (by unfold Short; decide)) (by kernel_rfl) (.val _) ⟨Lent.tree (encI_tree [2, 1]), lent_intsL (l := [2, 1]) (by simp [View.set]) rfl, trivial⟩ (by simp [View.set, d72, f2, encG, encS]) ?_
  clear hn7 d72 f2 H2
  intro H2 f2
  simp only [encG, encS] at f2
  simp (disch := omega) only [↓wr, ↓reduceIte, wq, eq_self, ne_eq, implies_true, oneV, intOp, goI, splice, sBuild, fillE, nilB, isNil, Nat.reduceEqDiff, Nat.reduceAdd, Nat.reduceLT, Nat.reduceLeDiff, Int.reduceNeg, Int.reduceToNat, reduceCtorEq, decide_true, decide_false, f2]
  refine GoB.split (fun _ => ?_) (fun e => absurd e (by decide))
  simp (disch := omega) only [↓wr, ↓reduceIte, wq, eq_self, ne_eq, implies_true, oneV, intOp, goI, splice, sBuild, fillE, nilB, isNil, Nat.reduceEqDiff, Nat.reduceAdd, Nat.reduceLT, Nat.reduceLeDiff, Int.reduceNeg, Int.reduceToNat, reduceCtorEq, decide_true, decide_false, f2]
  have hu := (pn_lRules g1 k1 s1).pure
  rw [if_pos hr, e2] at hu
  refine CallG.pure hu (by kernel_rfl) ?_
  simp (disch := omega) only [↓wr, ↓reduceIte, wq, eq_self, ne_eq, implies_true, oneV, intOp, goI, splice, sBuild, fillE, nilB, isNil, Nat.reduceEqDiff, Nat.reduceAdd, Nat.reduceLT, Nat.reduceLeDiff, Int.reduceNeg, Int.reduceToNat, reduceCtorEq, decide_true, decide_false, f2]
  intro n8 hn8
  have d : n2 ≠ n8 := by rintro rfl; rw [f2] at hn8; simp at hn8
  try simp (disch := omega) only [↓wr, ↓reduceIte, wq, eq_self, ne_eq, implies_true, oneV, intOp, goI, splice, sBuild, fillE, nilB, isNil, Nat.reduceEqDiff, Nat.reduceAdd, Nat.reduceLT, Nat.reduceLeDiff, Int.reduceNeg, Int.reduceToNat, reduceCtorEq, decide_true, decide_false, f2]
  refine CallG.lendAs (fun H => H n2 = .arr 4 [encG g1]) (pc_Ints [1, 2] [1, 2] (by unfold Short; decide)) (by kernel_rfl) (.val _) ⟨Lent.tree (encI_tree [1, 2]), lent_intsL (l := [1, 2]) (by simp [View.set]) rfl, trivial⟩ (by simp [View.set, d, f2, encG, encS]) ?_
  clear hn8 d f2 H2
  intro H2 f2
  simp only [encG, encS] at f2
  simp (disch := omega) only [↓wr, ↓reduceIte, wq, eq_self, ne_eq, implies_true, oneV, intOp, goI, splice, sBuild, fillE, nilB, isNil, Nat.reduceEqDiff, Nat.reduceAdd, Nat.reduceLT, Nat.reduceLeDiff, Int.reduceNeg, Int.reduceToNat, reduceCtorEq, decide_true, decide_false, f2]
  refine GoB.split (fun _ => ?_) (fun e => absurd e (by decide))
  simp (disch := omega) only [↓wr, ↓reduceIte, wq, eq_self, ne_eq, implies_true, oneV, intOp, goI, splice, sBuild, fillE, nilB, isNil, Nat.reduceEqDiff, Nat.reduceAdd, Nat.reduceLT, Nat.reduceLeDiff, Int.reduceNeg, Int.reduceToNat, reduceCtorEq, decide_true, decide_false, f2]
  intro n9 hn9
  have d : n2 ≠ n9 := by rintro rfl; rw [f2] at hn9; simp at hn9
  try simp (disch := omega) only [↓wr, ↓reduceIte, wq, eq_self, ne_eq, implies_true, oneV, intOp, goI, splice, sBuild, fillE, nilB, isNil, Nat.reduceEqDiff, Nat.reduceAdd, Nat.reduceLT, Nat.reduceLeDiff, Int.reduceNeg, Int.reduceToNat, reduceCtorEq, decide_true, decide_false, f2]
  refine CallG.lendAs (fun H => H n2 = .arr 4 [encG g1]) (pc_Ints [1, 2] [1, 2] (by unfold Short; decide)) (by kernel_rfl) (.val _) ⟨Lent.tree (encI_tree [1, 2]), lent_intsL (l := [1, 2]) (by simp [View.set]) rfl, trivial⟩ (by simp [View.set, d, f2, encG, encS]) ?_
  clear hn9 d f2 H2
  intro H2 f2
  simp only [encG, encS] at f2
  simp (disch := omega) only [↓wr, ↓reduceIte, wq, eq_self, ne_eq, implies_true, oneV, intOp, goI, splice, sBuild, fillE, nilB, isNil, Nat.reduceEqDiff, Nat.reduceAdd, Nat.reduceLT, Nat.reduceLeDiff, Int.reduceNeg, Int.reduceToNat, reduceCtorEq, decide_true, decide_false, f2]
  refine GoB.split (fun _ => ?_) (fun e => absurd e (by decide))
  simp (disch := omega) only [↓wr, ↓reduceIte, wq, eq_self, ne_eq, implies_true, oneV, intOp, goI, splice, sBuild, fillE, nilB, isNil, Nat.reduceEqDiff, Nat.reduceAdd, Nat.reduceLT, Nat.reduceLeDiff, Int.reduceNeg, Int.reduceToNat, reduceCtorEq, decide_true, decide_false, f2]
  intro n10 hn10
  have d : n2 ≠ n10 := by rintro rfl; rw [f2] at hn10; simp at hn10
  try simp (disch := omega) only [↓wr, ↓reduceIte, wq, eq_self, ne_eq, implies_true, oneV, intOp, goI, splice, sBuild, fillE, nilB, isNil, Nat.reduceEqDiff, Nat.reduceAdd, Nat.reduceLT, Nat.reduceLeDiff, Int.reduceNeg, Int.reduceToNat, reduceCtorEq, decide_true, decide_false, f2]
  refine CallG.lendAs (fun _ => True) (pc_Ints [1, 0] [1, 0] (by unfold Short; decide)) (by kernel_rfl) (.val _) ⟨Lent.tree (encI_tree [1, 0]), lent_intsL (l := [1, 0]) (by simp [View.set]) rfl, trivial⟩ trivial ?_
  intro H3 _
  simp (disch := omega) only [↓wr, ↓reduceIte, wq, eq_self, ne_eq, implies_true, oneV, intOp, goI, splice, sBuild, fillE, nilB, isNil, Nat.reduceEqDiff, Nat.reduceAdd, Nat.reduceLT, Nat.reduceLeDiff, Int.reduceNeg, Int.reduceToNat, reduceCtorEq, decide_true, decide_false]
  rfl

theorem pc_alive14 : PCall Tryz.prog 31 [] (gb true) :=
  pc_alive14_of gram3 gram4 gram3_ok gram4_ok gram3_small gram4_small read3 read4 g3r g3h g3u g3t g3w g4t g4w
end Gv

/-
  The laws on heights, least trees and least sentences.
  Conditions: lists that are no longer than an int says, numbers that are ints.
-/
set_option linter.unusedSimpArgs false
set_option maxRecDepth 100000
namespace Gv
open Go Go.Proofs

def S_gerundlaw14_LeastTrees : SF := ⟨.seq (.region false [⟨none, [((some 2), .op (.frz (.tmp 0))), ((some 4), .op (.mov (.val (.val (.bool false)))))]⟩]) <|
  .seq (.seq (.region false [⟨none, [((some 9), .call (.val (.fn 31 [] [])) []), ((some 10), .op (.not (.tmp 9)))]⟩]) <|
  .cond (.tmp 10) (.seq (.region false [⟨none, [((some 4), .op (.mov (.val (.val (.bool false)))))]⟩]) <|
  .ret) (.skip)) <|
  .seq (.seq (.region false [⟨none, [((some 11), .op (.load (some 4) (.tmp 2))), ((some 12), .call (.val (.fn 13 [] [])) [(.tmp 11)])]⟩]) <|
  .cond (.tmp 12) (.seq (.region false [⟨none, [((some 4), .op (.mov (.val (.val (.bool true)))))]⟩]) <|
  .ret) (.skip)) <|
  .seq (.region false [⟨none, [((some 14), .op (.load (some 4) (.tmp 2))), ((some 15), .op (.mov (.tmp 1))), ((some 16), .call (.val (.fn 36 [] [])) [(.tmp 14), (.tmp 15)]), ((some 13), .op (.mov (.tmp 16))), ((some 17), .op (.ext 0 (.tmp 13))), ((some 18), .op (.ext 1 (.tmp 13))), ((some 5), .op (.mov (.tmp 17))), ((some 6), .op (.mov (.tmp 18)))]⟩]) <|
  .seq (.region false [⟨none, [((some 20), .op (.load (some 4) (.tmp 2))), ((some 21), .op (.mov (.tmp 1))), ((some 22), .call (.val (.fn 37 [] [])) [(.tmp 20), (.tmp 21)]), ((some 19), .op (.mov (.tmp 22))), ((some 23), .op (.ext 0 (.tmp 19))), ((some 24), .op (.ext 1 (.tmp 19))), ((some 7), .op (.mov (.tmp 23))), ((some 8), .op (.mov (.tmp 24)))]⟩]) <|
  .seq (.region false [⟨none, [((some 25), .op (.mov (.tmp 5))), ((some 26), .op (.mov (.tmp 7))), ((some 27), .call (.val (.fn 27 [] [])) [(.tmp 25), (.tmp 26)]), ((some 28), .op (.mov (.tmp 27)))]⟩, ⟨(some (28, true)), [((some 29), .op (.mov (.tmp 6))), ((some 30), .op (.mov (.tmp 8))), ((some 31), .op (.arith .eql (.tmp 29) (.tmp 30)))]⟩, ⟨none, [((some 32), .op (.pick (.tmp 28) (.tmp 31) (.val (.val (.bool false))))), ((some 4), .op (.mov (.tmp 32)))]⟩]) <|
  .ret,
  [.tmp 4], 33⟩
theorem S_gerundlaw14_LeastTrees_ok : compF Tryz.prog 8 [2] = some S_gerundlaw14_LeastTrees := by kernel_rfl

def S_gerundlaw14_LeastWords : SF := ⟨.seq (.region false [⟨none, [((some 2), .op (.frz (.tmp 0))), ((some 4), .op (.mov (.val (.val (.bool false)))))]⟩]) <|
  .seq (.seq (.region false [⟨none, [((some 9), .call (.val (.fn 31 [] [])) []), ((some 10), .op (.not (.tmp 9)))]⟩]) <|
  .cond (.tmp 10) (.seq (.region false [⟨none, [((some 4), .op (.mov (.val (.val (.bool false)))))]⟩]) <|
  .ret) (.skip)) <|
  .seq (.seq (.region false [⟨none, [((some 11), .op (.load (some 4) (.tmp 2))), ((some 12), .call (.val (.fn 13 [] [])) [(.tmp 11)]), ((some 13), .op (.mov (.tmp 12)))]⟩, ⟨(some (13, false)), [((some 14), .op (.mov (.tmp 1))), ((some 15), .op (.len (.tmp 14))), ((some 16), .op (.arith .gtr (.tmp 15) (.val (.val (.int .i64 50)))))]⟩, ⟨none, [((some 17), .op (.pick (.tmp 13) (.val (.val (.bool true))) (.tmp 16)))]⟩]) <|
  .cond (.tmp 17) (.seq (.region false [⟨none, [((some 4), .op (.mov (.val (.val (.bool true)))))]⟩]) <|
  .ret) (.skip)) <|
  .seq (.region false [⟨none, [((some 19), .op (.load (some 4) (.tmp 2))), ((some 20), .op (.mov (.tmp 1))), ((some 21), .call (.val (.fn 38 [] [])) [(.tmp 19), (.tmp 20)]), ((some 18), .op (.mov (.tmp 21))), ((some 22), .op (.ext 0 (.tmp 18))), ((some 23), .op (.ext 1 (.tmp 18))), ((some 5), .op (.mov (.tmp 22))), ((some 6), .op (.mov (.tmp 23)))]⟩]) <|
  .seq (.region false [⟨none, [((some 25), .op (.load (some 4) (.tmp 2))), ((some 26), .op (.mov (.tmp 1))), ((some 27), .call (.val (.fn 39 [] [])) [(.tmp 25), (.tmp 26)]), ((some 24), .op (.mov (.tmp 27))), ((some 28), .op (.ext 0 (.tmp 24))), ((some 29), .op (.ext 1 (.tmp 24))), ((some 7), .op (.mov (.tmp 28))), ((some 8), .op (.mov (.tmp 29)))]⟩]) <|
  .seq (.region false [⟨none, [((some 30), .op (.mov (.tmp 5))), ((some 31), .op (.mov (.tmp 7))), ((some 32), .call (.val (.fn 27 [] [])) [(.tmp 30), (.tmp 31)]), ((some 33), .op (.mov (.tmp 32)))]⟩, ⟨(some (33, true)), [((some 34), .op (.mov (.tmp 6))), ((some 35), .op (.mov (.tmp 8))), ((some 36), .op (.arith .eql (.tmp 34) (.tmp 35)))]⟩, ⟨none, [((some 37), .op (.pick (.tmp 33) (.tmp 36) (.val (.val (.bool false))))), ((some 4), .op (.mov (.tmp 37)))]⟩]) <|
  .ret,
  [.tmp 4], 38⟩
theorem S_gerundlaw14_LeastWords_ok : compF Tryz.prog 9 [2] = some S_gerundlaw14_LeastWords := by kernel_rfl

theorem treeA_short {g : Gram} (n : Int) : Short (treeA g n).1 := by
  unfold treeA
  split
  · rename_i h
    split
    · unfold Short; simp
    · rename_i hk
      split
      · unfold Short; simp
      · rename_i hs
        simp only [Bool.and_eq_true, decide_eq_true_eq] at h
        have hkn : Known (plansG g) n.toNat := by unfold Known; omega
        have s1 := (sum_one h.1.2 hkn).1
        have := tree_size (tree_one h.1.2 hkn).2 (by omega)
        unfold Short; simp only; omega
  · unfold Short; simp
theorem wordA_short {g : Gram} (l : List Int) : Short (wordA g l).1 ∧ (wordA g l).1.length ≤ 60 := by
  unfold wordA
  split
  · split
    · unfold Short; simp
    · rename_i hk
      split
      · unfold Short; simp
      · rename_i hs
        have hak := (sumP_ok (plansG g) l zeroP).1 (by simpa using hk)
        have := word_size hak (by omega)
        unfold Short; simp only; omega
  · unfold Short; simp

set_option maxHeartbeats 2000000 in
theorem pc_LeastTrees (g : Gram) (hg : g.Ok) (n : Int) (hn : In64 n) : PCall Tryz.prog 8 [.agg (encG g), gi n] (gb true) := by
  refine PCall.val (gi_trees g n) fun H => ?_
  refine MCall.of mixed S_gerundlaw14_LeastTrees_ok ?_
  simp (disch := omega) only [↓wr, ↓reduceIte, wq, eq_self, ne_eq, implies_true, oneV, intOp, goI, splice, sBuild, fillE, nilB, isNil, Nat.reduceEqDiff, Nat.reduceAdd, Nat.reduceLT, Nat.reduceLeDiff, Int.reduceNeg, Int.reduceToNat, reduceCtorEq, decide_true, decide_false, S_gerundlaw14_LeastTrees, encG, encS]
  refine CallG.pure pc_alive14 (by kernel_rfl) ?_
  simp (disch := omega) only [↓wr, ↓reduceIte, wq, eq_self, ne_eq, implies_true, oneV, intOp, goI, splice, sBuild, fillE, nilB, isNil, Nat.reduceEqDiff, Nat.reduceAdd, Nat.reduceLT, Nat.reduceLeDiff, Int.reduceNeg, Int.reduceToNat, reduceCtorEq, decide_true, decide_false, encG, encS]
  refine CallG.pure (pc_great g) (by kernel_rfl) ?_
  simp (disch := omega) only [↓wr, ↓reduceIte, wq, eq_self, ne_eq, implies_true, oneV, intOp, goI, splice, sBuild, fillE, nilB, isNil, Nat.reduceEqDiff, Nat.reduceAdd, Nat.reduceLT, Nat.reduceLeDiff, Int.reduceNeg, Int.reduceToNat, reduceCtorEq, decide_true, decide_false]
  refine GoB.split (fun e => ?_) (fun e => ?_)
  · simp (disch := omega) only [↓wr, ↓reduceIte, wq, eq_self, ne_eq, implies_true, oneV, intOp, goI, splice, sBuild, fillE, nilB, isNil, Nat.reduceEqDiff, Nat.reduceAdd, Nat.reduceLT, Nat.reduceLeDiff, Int.reduceNeg, Int.reduceToNat, reduceCtorEq, decide_true, decide_false]
  · have hs : g.Small := great_small e
    have h1 := (pn_lTree g hg hs n hn).pure
    have h2 := (pn_Tree14 g hg n hn).pure
    have h3 := treeA_short (g := g) n
    generalize treeA g n = y at h1 h2 h3
    obtain ⟨y1, y2⟩ := y
    simp (disch := omega) only [↓wr, ↓reduceIte, wq, eq_self, ne_eq, implies_true, oneV, intOp, goI, splice, sBuild, fillE, nilB, isNil, Nat.reduceEqDiff, Nat.reduceAdd, Nat.reduceLT, Nat.reduceLeDiff, Int.reduceNeg, Int.reduceToNat, reduceCtorEq, decide_true, decide_false, encG, encS]
    refine CallG.pure h1 (by kernel_rfl) ?_
    simp (disch := omega) only [↓wr, ↓reduceIte, wq, eq_self, ne_eq, implies_true, oneV, intOp, goI, splice, sBuild, fillE, nilB, isNil, Nat.reduceEqDiff, Nat.reduceAdd, Nat.reduceLT, Nat.reduceLeDiff, Int.reduceNeg, Int.reduceToNat, reduceCtorEq, decide_true, decide_false, encG, encS, outA]
    refine CallG.pure h2 (by kernel_rfl) ?_
    simp (disch := omega) only [↓wr, ↓reduceIte, wq, eq_self, ne_eq, implies_true, oneV, intOp, goI, splice, sBuild, fillE, nilB, isNil, Nat.reduceEqDiff, Nat.reduceAdd, Nat.reduceLT, Nat.reduceLeDiff, Int.reduceNeg, Int.reduceToNat, reduceCtorEq, decide_true, decide_false, encG, encS, outA]
    refine CallG.pure (pc_Ints y1 y1 h3) (by kernel_rfl) ?_
    simp (disch := omega) only [↓wr, ↓reduceIte, wq, eq_self, ne_eq, implies_true, oneV, intOp, goI, splice, sBuild, fillE, nilB, isNil, Nat.reduceEqDiff, Nat.reduceAdd, Nat.reduceLT, Nat.reduceLeDiff, Int.reduceNeg, Int.reduceToNat, reduceCtorEq, decide_true, decide_false]
    refine GoB.split (fun _ => ?_) (fun e => absurd e (by simp))
    simp (disch := omega) only [↓wr, ↓reduceIte, wq, eq_self, ne_eq, implies_true, oneV, intOp, goI, splice, sBuild, fillE, nilB, isNil, Nat.reduceEqDiff, Nat.reduceAdd, Nat.reduceLT, Nat.reduceLeDiff, Int.reduceNeg, Int.reduceToNat, reduceCtorEq, decide_true, decide_false]
    simp

set_option maxHeartbeats 2000000 in
theorem pc_LeastWords (g : Gram) (hg : g.Ok) (l : List Int) (hl : Short l) (hn : ∀ x ∈ l, In64 x) : PCall Tryz.prog 9 [.agg (encG g), encI l] (gb true) := by
  refine PCall.val (by
    intro v hv; simp at hv
    rcases hv with rfl | rfl
    · exact tree_agg _ (encG_tree g)
    · exact encI_tree l) fun H => ?_
  refine MCall.of mixed S_gerundlaw14_LeastWords_ok ?_
  unfold Short at hl
  simp (disch := omega) only [↓wr, ↓reduceIte, wq, eq_self, ne_eq, implies_true, oneV, intOp, goI, splice, sBuild, fillE, nilB, isNil, Nat.reduceEqDiff, Nat.reduceAdd, Nat.reduceLT, Nat.reduceLeDiff, Int.reduceNeg, Int.reduceToNat, reduceCtorEq, decide_true, decide_false, S_gerundlaw14_LeastWords, encG, encS]
  refine CallG.pure pc_alive14 (by kernel_rfl) ?_
  simp (disch := omega) only [↓wr, ↓reduceIte, wq, eq_self, ne_eq, implies_true, oneV, intOp, goI, splice, sBuild, fillE, nilB, isNil, Nat.reduceEqDiff, Nat.reduceAdd, Nat.reduceLT, Nat.reduceLeDiff, Int.reduceNeg, Int.reduceToNat, reduceCtorEq, decide_true, decide_false, encG, encS]
  refine CallG.pure (pc_great g) (by kernel_rfl) ?_
  simp (disch := omega) only [↓wr, ↓reduceIte, wq, eq_self, ne_eq, implies_true, oneV, intOp, goI, splice, sBuild, fillE, nilB, isNil, Nat.reduceEqDiff, Nat.reduceAdd, Nat.reduceLT, Nat.reduceLeDiff, Int.reduceNeg, Int.reduceToNat, reduceCtorEq, decide_true, decide_false]
  refine GoB.split (fun e => ?_) (fun e => ?_)
  · simp (disch := omega) only [↓wr, ↓reduceIte, wq, eq_self, ne_eq, implies_true, oneV, intOp, goI, splice, sBuild, fillE, nilB, isNil, Nat.reduceEqDiff, Nat.reduceAdd, Nat.reduceLT, Nat.reduceLeDiff, Int.reduceNeg, Int.reduceToNat, reduceCtorEq, decide_true, decide_false]
  · have hs : g.Small := great_small e
    simp (disch := omega) only [↓wr, ↓reduceIte, wq, eq_self, ne_eq, implies_true, oneV, intOp, goI, splice, sBuild, fillE, nilB, isNil, Nat.reduceEqDiff, Nat.reduceAdd, Nat.reduceLT, Nat.reduceLeDiff, Int.reduceNeg, Int.reduceToNat, reduceCtorEq, decide_true, decide_false, encI]
    refine GoB.dec (fun hc => ?_) (fun hc => ?_)
    · simp (disch := omega) only [↓wr, ↓reduceIte, wq, eq_self, ne_eq, implies_true, oneV, intOp, goI, splice, sBuild, fillE, nilB, isNil, Nat.reduceEqDiff, Nat.reduceAdd, Nat.reduceLT, Nat.reduceLeDiff, Int.reduceNeg, Int.reduceToNat, reduceCtorEq, decide_true, decide_false]
    · have h1 := (pn_lWord g hg hs l (by omega) hn).pure
      have h2 := (pn_Word14 g hg l (by omega) hn).pure
      have h3 := wordA_short (g := g) l
      generalize wordA g l = y at h1 h2 h3
      obtain ⟨y1, y2⟩ := y
      simp (disch := omega) only [↓wr, ↓reduceIte, wq, eq_self, ne_eq, implies_true, oneV, intOp, goI, splice, sBuild, fillE, nilB, isNil, Nat.reduceEqDiff, Nat.reduceAdd, Nat.reduceLT, Nat.reduceLeDiff, Int.reduceNeg, Int.reduceToNat, reduceCtorEq, decide_true, decide_false, encG, encS]
      refine CallG.pure h1 (by kernel_rfl) ?_
      simp (disch := omega) only [↓wr, ↓reduceIte, wq, eq_self, ne_eq, implies_true, oneV, intOp, goI, splice, sBuild, fillE, nilB, isNil, Nat.reduceEqDiff, Nat.reduceAdd, Nat.reduceLT, Nat.reduceLeDiff, Int.reduceNeg, Int.reduceToNat, reduceCtorEq, decide_true, decide_false, encG, encS, outA]
      refine CallG.pure h2 (by kernel_rfl) ?_
      simp (disch := omega) only [↓wr, ↓reduceIte, wq, eq_self, ne_eq, implies_true, oneV, intOp, goI, splice, sBuild, fillE, nilB, isNil, Nat.reduceEqDiff, Nat.reduceAdd, Nat.reduceLT, Nat.reduceLeDiff, Int.reduceNeg, Int.reduceToNat, reduceCtorEq, decide_true, decide_false, encG, encS, outA]
      refine CallG.pure (pc_Ints y1 y1 h3.1) (by kernel_rfl) ?_
      simp (disch := omega) only [↓wr, ↓reduceIte, wq, eq_self, ne_eq, implies_true, oneV, intOp, goI, splice, sBuild, fillE, nilB, isNil, Nat.reduceEqDiff, Nat.reduceAdd, Nat.reduceLT, Nat.reduceLeDiff, Int.reduceNeg, Int.reduceToNat, reduceCtorEq, decide_true, decide_false]
      refine GoB.split (fun _ => ?_) (fun e => absurd e (by simp))
      simp (disch := omega) only [↓wr, ↓reduceIte, wq, eq_self, ne_eq, implies_true, oneV, intOp, goI, splice, sBuild, fillE, nilB, isNil, Nat.reduceEqDiff, Nat.reduceAdd, Nat.reduceLT, Nat.reduceLeDiff, Int.reduceNeg, Int.reduceToNat, reduceCtorEq, decide_true, decide_false]
      simp
end Gv

/-
  The law on heights: no rule makes a nonterminal less high than it is.
  Conditions: lists that are no longer than an int says, numbers that are ints.
-/
set_option linter.unusedSimpArgs false
set_option maxRecDepth 100000
namespace Gv
open Go Go.Proofs

theorem der_known {g : Gram} (hr : right09 g = true) {x : Int} (h : Der g x) : Known (plansG g) x.toNat := by
  have hf := right09_fine hr
  induction h with
  | mk R hR _ ih =>
    have hl := hf.left R hR
    exact (plans_low hR (by omega) fun s hs hn => ih s hs hn).1
theorem grown_known {g : Gram} (hr : right09 g = true) : ∀ (k : Nat) (m : Nat), Known (plansG g) m → (pAt (plansG g) m).height ≤ k → (grown09 g true).getD m false = true
  | 0, m, h, hk => by have := (plans_known h).1; simp at hk; omega
  | k + 1, m, h, hk => by
    obtain ⟨i, r, hri, hl, ha, hp, _⟩ := plans_least h
    have hm := List.mem_of_getElem? hri
    have hh : (pAt (plansG g) m).height = (sumP (plansG g) r.right zeroP).1.height + 1 := by rw [hp]; rfl
    have h1 := ((sumP_height (plansG g) k r.right zeroP ha).1 (by push_cast at hk; omega)).2
    rw [← hl]
    refine grown_closed hr hm (allG_iff.2 fun s hs hn => ?_)
    exact grown_known hr k _ (ha s hs hn) (h1 s hs hn)
theorem prod_known {g : Gram} (hr : right09 g = true) (m : Nat) : (grown09 g true).getD m false = true ↔ Known (plansG g) m :=
  ⟨fun h => by simpa using der_known hr (der_of_grown hr m h), fun h => grown_known hr _ m h (plans_known h).2⟩

/-- The greatest height of some symbols' nonterminals. -/
def topH (h : List Int) : List Int → Int → Int
  | [], t => t
  | x :: l, t => topH h l (if x < 0 then max t (hAt h (nonN x)) else t)
theorem topH_sum {P : List Plan} : ∀ (l : List Int) (s : Plan), AllK P l → (sumP P l s).1.height = topH (hgts P) l s.height
  | [], s, _ => rfl
  | x :: l, s, ha => by
    have ha' : AllK P l := fun y hy => ha y (by simp [hy])
    rw [topH]
    by_cases h0 : 0 ≤ x
    · rw [sumP_term h0, topH_sum l _ ha', if_neg (by omega)]
    · have hk := ha x (by simp) (by omega)
      unfold Known at hk
      rw [sumP_non h0 (by omega), topH_sum l _ ha', if_pos (by omega), hAt_map]

def B_gerundlaw14_LeastLow_0 : SC :=
  .seq (.seq (.region false [⟨none, [((some 41), .op (.mov (.tmp 6))), ((some 42), .op (.mov (.tmp 3))), ((some 43), .op (.len (.tmp 42))), ((some 44), .op (.arith .lss (.tmp 41) (.tmp 43)))]⟩]) <|
  .cond (.tmp 44) (.skip) (.exit 0)) <|
  .seq (.block 1 (.seq (.region false [⟨none, [((some 47), .op (.mov (.tmp 5))), ((some 48), .op (.mov (.tmp 6))), ((some 49), .op (.idx 1 (.tmp 47) (.tmp 48))), ((some 50), .op (.load none (.tmp 49))), ((some 51), .op (.mov (.tmp 3))), ((some 52), .op (.mov (.tmp 6))), ((some 53), .op (.idx 1 (.tmp 51) (.tmp 52))), ((some 54), .op (.load none (.tmp 53))), ((some 55), .op (.arith .gtr (.tmp 54) (.val (.val (.int .i64 0))))), ((some 56), .op (.beq false (.tmp 50) (.tmp 55))), ((some 57), .op (.mov (.tmp 56)))]⟩, ⟨(some (57, false)), [((some 58), .op (.mov (.tmp 5))), ((some 59), .op (.mov (.tmp 6))), ((some 60), .op (.idx 1 (.tmp 58) (.tmp 59))), ((some 61), .op (.load none (.tmp 60))), ((some 62), .op (.mov (.tmp 4))), ((some 63), .op (.mov (.tmp 6))), ((some 64), .op (.idx 1 (.tmp 62) (.tmp 63))), ((some 65), .op (.load none (.tmp 64))), ((some 66), .op (.arith .geq (.tmp 65) (.val (.val (.int .i64 0))))), ((some 67), .op (.beq false (.tmp 61) (.tmp 66)))]⟩, ⟨none, [((some 68), .op (.pick (.tmp 57) (.val (.val (.bool true))) (.tmp 67))), ((some 69), .op (.mov (.tmp 68)))]⟩, ⟨(some (69, false)), [((some 70), .op (.mov (.tmp 4))), ((some 71), .op (.mov (.tmp 6))), ((some 72), .op (.idx 1 (.tmp 70) (.tmp 71))), ((some 73), .op (.load none (.tmp 72))), ((some 74), .op (.addr 2 (.tmp 1))), ((some 75), .op (.load none (.tmp 74))), ((some 76), .op (.len (.tmp 75))), ((some 77), .op (.arith .geq (.tmp 73) (.tmp 76)))]⟩, ⟨none, [((some 78), .op (.pick (.tmp 69) (.val (.val (.bool true))) (.tmp 77))), ((some 79), .op (.mov (.tmp 78)))]⟩, ⟨(some (79, false)), [((some 80), .op (.mov (.tmp 5))), ((some 81), .op (.mov (.tmp 6))), ((some 82), .op (.idx 1 (.tmp 80) (.tmp 81))), ((some 83), .op (.load none (.tmp 82))), ((some 84), .op (.mov (.tmp 83)))]⟩, ⟨(some (84, true)), [((some 85), .op (.addr 2 (.tmp 1))), ((some 86), .op (.load none (.tmp 85))), ((some 87), .op (.mov (.tmp 4))), ((some 88), .op (.mov (.tmp 6))), ((some 89), .op (.idx 1 (.tmp 87) (.tmp 88))), ((some 90), .op (.load none (.tmp 89))), ((some 91), .op (.idx 3 (.tmp 86) (.tmp 90))), ((some 92), .op (.addr 0 (.tmp 91))), ((some 93), .op (.load none (.tmp 92))), ((some 94), .op (.mov (.tmp 6))), ((some 95), .op (.arith .neq (.tmp 93) (.tmp 94)))]⟩, ⟨(some (79, false)), [((some 96), .op (.pick (.tmp 84) (.tmp 95) (.val (.val (.bool false)))))]⟩, ⟨none, [((some 97), .op (.pick (.tmp 79) (.val (.val (.bool true))) (.tmp 96)))]⟩]) <|
  .cond (.tmp 97) (.seq (.region false [⟨none, [((some 2), .op (.mov (.val (.val (.bool false)))))]⟩]) <|
  .ret) (.skip))) <|
  .region false [⟨none, [((some 45), .op (.mov (.tmp 6))), ((some 46), .op (.arith .add (.tmp 45) (.val (.val (.int .i64 1))))), ((some 6), .op (.mov (.tmp 46)))]⟩]
def B_gerundlaw14_LeastLow_1 : SC :=
  .seq (.seq (.region false [⟨none, [((some 110), .op (.mov (.tmp 11))), ((some 111), .op (.addr 1 (.tmp 8))), ((some 112), .op (.load none (.tmp 111))), ((some 113), .op (.len (.tmp 112))), ((some 114), .op (.arith .lss (.tmp 110) (.tmp 113)))]⟩]) <|
  .cond (.tmp 114) (.skip) (.exit 4)) <|
  .seq (.block 5 (.seq (.region false [⟨none, [((some 117), .op (.addr 1 (.tmp 8))), ((some 118), .op (.load none (.tmp 117))), ((some 119), .op (.mov (.tmp 11))), ((some 120), .op (.idx 1 (.tmp 118) (.tmp 119))), ((some 121), .op (.load none (.tmp 120))), ((some 122), .op (.arith .lss (.tmp 121) (.val (.val (.int .i64 0)))))]⟩]) <|
  .cond (.tmp 122) (.seq (.region false [⟨none, [((some 123), .op (.mov (.tmp 9))), ((some 124), .op (.mov (.tmp 3))), ((some 125), .op (.addr 1 (.tmp 8))), ((some 126), .op (.load none (.tmp 125))), ((some 127), .op (.mov (.tmp 11))), ((some 128), .op (.idx 1 (.tmp 126) (.tmp 127))), ((some 129), .op (.load none (.tmp 128))), ((some 130), .op (.arith .sub (.val (.val (.int .i64 (-1)))) (.tmp 129))), ((some 131), .op (.idx 1 (.tmp 124) (.tmp 130))), ((some 132), .op (.load none (.tmp 131))), ((some 133), .op (.mm true (.tmp 123) (.tmp 132))), ((some 9), .op (.mov (.tmp 133)))]⟩]) <|
  .region false [⟨none, [((some 134), .op (.mov (.tmp 10))), ((some 135), .op (.mov (.tmp 134)))]⟩, ⟨(some (135, true)), [((some 136), .op (.mov (.tmp 5))), ((some 137), .op (.addr 1 (.tmp 8))), ((some 138), .op (.load none (.tmp 137))), ((some 139), .op (.mov (.tmp 11))), ((some 140), .op (.idx 1 (.tmp 138) (.tmp 139))), ((some 141), .op (.load none (.tmp 140))), ((some 142), .op (.arith .sub (.val (.val (.int .i64 (-1)))) (.tmp 141))), ((some 143), .op (.idx 1 (.tmp 136) (.tmp 142))), ((some 144), .op (.load none (.tmp 143)))]⟩, ⟨none, [((some 145), .op (.pick (.tmp 135) (.tmp 144) (.val (.val (.bool false))))), ((some 10), .op (.mov (.tmp 145)))]⟩]) (.skip))) <|
  .region false [⟨none, [((some 115), .op (.mov (.tmp 11))), ((some 116), .op (.arith .add (.tmp 115) (.val (.val (.int .i64 1))))), ((some 11), .op (.mov (.tmp 116)))]⟩]
def B_gerundlaw14_LeastLow_2 : SC :=
  .seq (.seq (.region false [⟨none, [((some 98), .op (.mov (.tmp 7))), ((some 99), .op (.addr 2 (.tmp 1))), ((some 100), .op (.load none (.tmp 99))), ((some 101), .op (.len (.tmp 100))), ((some 102), .op (.arith .lss (.tmp 98) (.tmp 101)))]⟩]) <|
  .cond (.tmp 102) (.skip) (.exit 2)) <|
  .seq (.block 3 (.seq (.region false [⟨none, [((some 105), .op (.addr 2 (.tmp 1))), ((some 106), .op (.load none (.tmp 105))), ((some 107), .op (.mov (.tmp 7))), ((some 108), .op (.idx 3 (.tmp 106) (.tmp 107))), ((some 109), .op (.load (some 3) (.tmp 108))), ((some 8), .op (.alloc [(.val (.int .i64 0)), (.emp 1), (.val (.int .i64 0))])), (none, .op (.store 3 (.tmp 8) (.tmp 109)))]⟩]) <|
  .seq (.region false [⟨none, [((some 9), .op (.mov (.val (.val (.int .i64 0))))), ((some 10), .op (.mov (.val (.val (.bool true)))))]⟩]) <|
  .seq (.seq (.region false [⟨none, [((some 11), .op (.mov (.val (.val (.int .i64 0)))))]⟩]) <|
  .block 4 (.loop B_gerundlaw14_LeastLow_1)) <|
  .seq (.region false [⟨none, [((some 146), .op (.mov (.tmp 10))), ((some 147), .op (.mov (.tmp 146)))]⟩, ⟨(some (147, true)), [((some 148), .op (.mov (.tmp 3))), ((some 149), .op (.addr 0 (.tmp 8))), ((some 150), .op (.load none (.tmp 149))), ((some 151), .op (.idx 1 (.tmp 148) (.tmp 150))), ((some 152), .op (.load none (.tmp 151))), ((some 153), .op (.mov (.tmp 9))), ((some 154), .op (.arith .add (.tmp 153) (.val (.val (.int .i64 1))))), ((some 155), .op (.arith .gtr (.tmp 152) (.tmp 154)))]⟩, ⟨none, [((some 156), .op (.pick (.tmp 147) (.tmp 155) (.val (.val (.bool false))))), ((some 157), .op (.mov (.tmp 156)))]⟩, ⟨(some (157, false)), [((some 158), .op (.mov (.tmp 4))), ((some 159), .op (.addr 0 (.tmp 8))), ((some 160), .op (.load none (.tmp 159))), ((some 161), .op (.idx 1 (.tmp 158) (.tmp 160))), ((some 162), .op (.load none (.tmp 161))), ((some 163), .op (.mov (.tmp 7))), ((some 164), .op (.arith .eql (.tmp 162) (.tmp 163))), ((some 165), .op (.mov (.tmp 164)))]⟩, ⟨(some (165, true)), [((some 166), .op (.mov (.tmp 10))), ((some 167), .op (.not (.tmp 166))), ((some 168), .op (.mov (.tmp 167)))]⟩, ⟨(some (168, false)), [((some 169), .op (.mov (.tmp 3))), ((some 170), .op (.addr 0 (.tmp 8))), ((some 171), .op (.load none (.tmp 170))), ((some 172), .op (.idx 1 (.tmp 169) (.tmp 171))), ((some 173), .op (.load none (.tmp 172))), ((some 174), .op (.mov (.tmp 9))), ((some 175), .op (.arith .add (.tmp 174) (.val (.val (.int .i64 1))))), ((some 176), .op (.arith .neq (.tmp 173) (.tmp 175)))]⟩, ⟨(some (165, true)), [((some 177), .op (.pick (.tmp 168) (.val (.val (.bool true))) (.tmp 176)))]⟩, ⟨(some (157, false)), [((some 178), .op (.pick (.tmp 165) (.tmp 177) (.val (.val (.bool false)))))]⟩, ⟨none, [((some 179), .op (.pick (.tmp 157) (.val (.val (.bool true))) (.tmp 178)))]⟩]) <|
  .cond (.tmp 179) (.seq (.region false [⟨none, [((some 2), .op (.mov (.val (.val (.bool false)))))]⟩]) <|
  .ret) (.skip))) <|
  .region false [⟨none, [((some 103), .op (.mov (.tmp 7))), ((some 104), .op (.arith .add (.tmp 103) (.val (.val (.int .i64 1))))), ((some 7), .op (.mov (.tmp 104)))]⟩]
def S_gerundlaw14_LeastLow : SF := ⟨.seq (.region false [⟨none, [((some 1), .op (.frz (.tmp 0))), ((some 2), .op (.mov (.val (.val (.bool false)))))]⟩]) <|
  .seq (.seq (.region false [⟨none, [((some 12), .call (.val (.fn 31 [] [])) []), ((some 13), .op (.not (.tmp 12)))]⟩]) <|
  .cond (.tmp 13) (.seq (.region false [⟨none, [((some 2), .op (.mov (.val (.val (.bool false)))))]⟩]) <|
  .ret) (.skip)) <|
  .seq (.seq (.region false [⟨none, [((some 14), .op (.load (some 4) (.tmp 1))), ((some 15), .call (.val (.fn 13 [] [])) [(.tmp 14)]), ((some 16), .op (.mov (.tmp 15)))]⟩, ⟨(some (16, false)), [((some 17), .op (.load (some 4) (.tmp 1))), ((some 18), .call (.val (.fn 28 [] [])) [(.tmp 17)]), ((some 19), .op (.not (.tmp 18)))]⟩, ⟨none, [((some 20), .op (.pick (.tmp 16) (.val (.val (.bool true))) (.tmp 19)))]⟩]) <|
  .cond (.tmp 20) (.seq (.region false [⟨none, [((some 2), .op (.mov (.val (.val (.bool true)))))]⟩]) <|
  .ret) (.skip)) <|
  .seq (.region true [⟨none, [((some 21), .op (.load (some 4) (.tmp 1))), ((some 22), .call (.val (.fn 32 [] [])) [(.tmp 21)]), ((some 23), .op (.load (some 4) (.tmp 1))), ((some 24), .call (.val (.fn 34 [] [])) [(.tmp 23)]), ((some 3), .op (.mov (.tmp 22))), ((some 4), .op (.mov (.tmp 24)))]⟩]) <|
  .seq (.region false [⟨none, [((some 25), .op (.load (some 4) (.tmp 1))), ((some 26), .call (.val (.fn 18 [] [])) [(.tmp 25)]), ((some 5), .op (.mov (.tmp 26)))]⟩]) <|
  .seq (.seq (.region false [⟨none, [((some 27), .op (.mov (.tmp 3))), ((some 28), .op (.len (.tmp 27))), ((some 29), .op (.addr 1 (.tmp 1))), ((some 30), .op (.load none (.tmp 29))), ((some 31), .op (.len (.tmp 30))), ((some 32), .op (.arith .neq (.tmp 28) (.tmp 31))), ((some 33), .op (.mov (.tmp 32)))]⟩, ⟨(some (33, false)), [((some 34), .op (.mov (.tmp 4))), ((some 35), .op (.len (.tmp 34))), ((some 36), .op (.addr 1 (.tmp 1))), ((some 37), .op (.load none (.tmp 36))), ((some 38), .op (.len (.tmp 37))), ((some 39), .op (.arith .neq (.tmp 35) (.tmp 38)))]⟩, ⟨none, [((some 40), .op (.pick (.tmp 33) (.val (.val (.bool true))) (.tmp 39)))]⟩]) <|
  .cond (.tmp 40) (.seq (.region false [⟨none, [((some 2), .op (.mov (.val (.val (.bool false)))))]⟩]) <|
  .ret) (.skip)) <|
  .seq (.seq (.region false [⟨none, [((some 6), .op (.mov (.val (.val (.int .i64 0)))))]⟩]) <|
  .block 0 (.loop B_gerundlaw14_LeastLow_0)) <|
  .seq (.seq (.region false [⟨none, [((some 7), .op (.mov (.val (.val (.int .i64 0)))))]⟩]) <|
  .block 2 (.loop B_gerundlaw14_LeastLow_2)) <|
  .seq (.region false [⟨none, [((some 2), .op (.mov (.val (.val (.bool true)))))]⟩]) <|
  .ret,
  [.tmp 2], 180⟩
theorem S_gerundlaw14_LeastLow_ok : compF Tryz.prog 10 [1] = some S_gerundlaw14_LeastLow := by kernel_rfl

set_option maxHeartbeats 8000000 in
theorem pc_LeastLow (g : Gram) (hg : g.Ok) : PCall Tryz.prog 10 [.agg (encG g)] (gb true) := by
  refine PCall.val (gg_tree g) fun H => ?_
  refine MCall.of mixed S_gerundlaw14_LeastLow_ok ?_
  have hsn := hg.nons
  unfold Short at hsn
  simp (disch := omega) only [↓wr, ↓reduceIte, wq, eq_self, ne_eq, implies_true, oneV, intOp, goI, splice, sBuild, fillE, nilB, isNil, Nat.reduceEqDiff, Nat.reduceAdd, Nat.reduceLT, Nat.reduceLeDiff, Int.reduceNeg, Int.reduceToNat, reduceCtorEq, decide_true, decide_false, S_gerundlaw14_LeastLow, encG, encS]
  refine CallG.pure pc_alive14 (by kernel_rfl) ?_
  simp (disch := omega) only [↓wr, ↓reduceIte, wq, eq_self, ne_eq, implies_true, oneV, intOp, goI, splice, sBuild, fillE, nilB, isNil, Nat.reduceEqDiff, Nat.reduceAdd, Nat.reduceLT, Nat.reduceLeDiff, Int.reduceNeg, Int.reduceToNat, reduceCtorEq, decide_true, decide_false, encG, encS]
  refine CallG.pure (pc_great g) (by kernel_rfl) ?_
  simp (disch := omega) only [↓wr, ↓reduceIte, wq, eq_self, ne_eq, implies_true, oneV, intOp, goI, splice, sBuild, fillE, nilB, isNil, Nat.reduceEqDiff, Nat.reduceAdd, Nat.reduceLT, Nat.reduceLeDiff, Int.reduceNeg, Int.reduceToNat, reduceCtorEq, decide_true, decide_false]
  refine GoB.split (fun e => ?_) (fun e => ?_)
  · simp (disch := omega) only [↓wr, ↓reduceIte, wq, eq_self, ne_eq, implies_true, oneV, intOp, goI, splice, sBuild, fillE, nilB, isNil, Nat.reduceEqDiff, Nat.reduceAdd, Nat.reduceLT, Nat.reduceLeDiff, Int.reduceNeg, Int.reduceToNat, reduceCtorEq, decide_true, decide_false]
  · have hs : g.Small := great_small e
    simp (disch := omega) only [↓wr, ↓reduceIte, wq, eq_self, ne_eq, implies_true, oneV, intOp, goI, splice, sBuild, fillE, nilB, isNil, Nat.reduceEqDiff, Nat.reduceAdd, Nat.reduceLT, Nat.reduceLeDiff, Int.reduceNeg, Int.reduceToNat, reduceCtorEq, decide_true, decide_false, encG, encS]
    refine CallG.pure (pc_Right09 g hg) (by kernel_rfl) ?_
    simp (disch := omega) only [↓wr, ↓reduceIte, wq, eq_self, ne_eq, implies_true, oneV, intOp, goI, splice, sBuild, fillE, nilB, isNil, Nat.reduceEqDiff, Nat.reduceAdd, Nat.reduceLT, Nat.reduceLeDiff, Int.reduceNeg, Int.reduceToNat, reduceCtorEq, decide_true, decide_false]
    refine GoB.split (fun hr => ?_) (fun hr => ?_)
    · have hf := right09_fine hr
      have z1 := hf.nons1
      have z2 := hf.nons
      have z3 := hf.rules
      have hh := (pn_lHeights g hg hs).pure
      have hu := (pn_lRules g hg hs).pure
      have hpr := pc_Productive11 g hg
      rw [if_pos hr] at hh hu
      have hlen := plans_len g
      have hgl := grown09_len hr true
      simp (disch := omega) only [↓wr, ↓reduceIte, wq, eq_self, ne_eq, implies_true, oneV, intOp, goI, splice, sBuild, fillE, nilB, isNil, Nat.reduceEqDiff, Nat.reduceAdd, Nat.reduceLT, Nat.reduceLeDiff, Int.reduceNeg, Int.reduceToNat, reduceCtorEq, decide_true, decide_false, encG, encS]
      refine CallG.pure hh (by kernel_rfl) ?_
      simp (disch := omega) only [↓wr, ↓reduceIte, wq, eq_self, ne_eq, implies_true, oneV, intOp, goI, splice, sBuild, fillE, nilB, isNil, Nat.reduceEqDiff, Nat.reduceAdd, Nat.reduceLT, Nat.reduceLeDiff, Int.reduceNeg, Int.reduceToNat, reduceCtorEq, decide_true, decide_false, encG, encS]
      refine CallG.pure hu (by kernel_rfl) ?_
      simp (disch := omega) only [↓wr, ↓reduceIte, wq, eq_self, ne_eq, implies_true, oneV, intOp, goI, splice, sBuild, fillE, nilB, isNil, Nat.reduceEqDiff, Nat.reduceAdd, Nat.reduceLT, Nat.reduceLeDiff, Int.reduceNeg, Int.reduceToNat, reduceCtorEq, decide_true, decide_false, encG, encS]
      refine CallG.pure hpr (by kernel_rfl) ?_
      have e1 : (rulesP g).length = g.nons.length := by simp [rulesP, hlen]
      simp (disch := omega) only [↓wr, ↓reduceIte, wq, eq_self, ne_eq, implies_true, oneV, intOp, goI, splice, sBuild, fillE, nilB, isNil, Nat.reduceEqDiff, Nat.reduceAdd, Nat.reduceLT, Nat.reduceLeDiff, Int.reduceNeg, Int.reduceToNat, reduceCtorEq, decide_true, decide_false, encG, encS, encI, List.length_map, hlen, e1]
      refine GoB.ne (fun hc => absurd rfl hc) (fun _ => ?_)
      simp (disch := omega) only [↓wr, ↓reduceIte, wq, eq_self, ne_eq, implies_true, oneV, intOp, goI, splice, sBuild, fillE, nilB, isNil, Nat.reduceEqDiff, Nat.reduceAdd, Nat.reduceLT, Nat.reduceLeDiff, Int.reduceNeg, Int.reduceToNat, reduceCtorEq, decide_true, decide_false, encG, encS, encI, List.length_map, hlen, e1]
      refine GoB.ne (fun hc => absurd rfl hc) (fun _ => ?_)
      simp (disch := omega) only [↓wr, ↓reduceIte, wq, eq_self, ne_eq, implies_true, oneV, intOp, goI, splice, sBuild, fillE, nilB, isNil, Nat.reduceEqDiff, Nat.reduceAdd, Nat.reduceLT, Nat.reduceLeDiff, Int.reduceNeg, Int.reduceToNat, reduceCtorEq, decide_true, decide_false, encG, encS, encI, List.length_map, hlen, e1]
      refine LoopG.up g.nons.length (fun i T H' => T 1 = .fptr (encG g) 0 ∧ T 3 = encI (hgts (plansG g)) ∧ T 4 = encI (rulesP g) ∧ T 5 = encB (grown09 g true) ∧ T 6 = gi i) ⟨rfl, rfl, rfl, rfl, rfl⟩ ?_
      rintro i k T H hk ⟨t1, t3, t4, t5, t6⟩
      simp (disch := omega) only [↓wr, ↓reduceIte, wq, eq_self, ne_eq, implies_true, oneV, intOp, goI, splice, sBuild, fillE, nilB, isNil, Nat.reduceEqDiff, Nat.reduceAdd, Nat.reduceLT, Nat.reduceLeDiff, Int.reduceNeg, Int.reduceToNat, reduceCtorEq, decide_true, decide_false, B_gerundlaw14_LeastLow_0, t1, t3, t4, t5, t6, encI, encB, List.length_map, hlen]
      refine GoB.dec (fun hc => ?_) (fun hc => ?_)
      · have hgh := hAt_get (h := hgts (plansG g)) (m := i) (by simp; omega)
        rw [hAt_map] at hgh
        have hgu := rulesP_get (g := g) (m := i) (by omega)
        have hgp : (grown09 g true)[i]? = some ((grown09 g true).getD i false) := by simp [List.getD_eq_getElem?_getD, show i < (grown09 g true).length by omega]
        have hpk := prod_known hr i
        by_cases hkn : Known (plansG g) i
        · rw [hpk.2 hkn] at hgp
          obtain ⟨ri, r, hri, hl, _, hp, _⟩ := plans_least hkn
          have hx := (plans_known hkn).1
          have hru : (pAt (plansG g) i).rule = ri := by rw [hp]; rfl
          have hrl : ri < g.rules.length := (List.getElem?_eq_some_iff.1 hri).1
          have hl0 := hf.left r (List.mem_of_getElem? hri)
          rw [hru] at hgu
          generalize (pAt (plansG g) i).height = hv at hgh hx
          simp (disch := omega) only [↓wr, ↓reduceIte, wq, eq_self, ne_eq, implies_true, oneV, intOp, goI, splice, sBuild, fillE, nilB, isNil, Nat.reduceEqDiff, Nat.reduceAdd, Nat.reduceLT, Nat.reduceLeDiff, Int.reduceNeg, Int.reduceToNat, reduceCtorEq, decide_true, decide_false, t1, t3, t4, t5, t6, encI, encB, encG, encR, List.getElem?_map, hgh, hgu, hgp]
          have f1 : (true != decide (hv > 0)) = false := by simp; omega
          have f2 : (true != decide ((ri : Int) ≥ 0)) = false := by simp
          simp (disch := omega) only [↓wr, ↓reduceIte, wq, eq_self, ne_eq, implies_true, oneV, intOp, goI, splice, sBuild, fillE, nilB, isNil, Nat.reduceEqDiff, Nat.reduceAdd, Nat.reduceLT, Nat.reduceLeDiff, Int.reduceNeg, Int.reduceToNat, reduceCtorEq, decide_true, decide_false, t1, t3, t4, t5, t6, encI, encB, encG, encR, List.getElem?_map, hgh, hgu, hgp, f1]
          simp (disch := omega) only [↓wr, ↓reduceIte, wq, eq_self, ne_eq, implies_true, oneV, intOp, goI, splice, sBuild, fillE, nilB, isNil, Nat.reduceEqDiff, Nat.reduceAdd, Nat.reduceLT, Nat.reduceLeDiff, Int.reduceNeg, Int.reduceToNat, reduceCtorEq, decide_true, decide_false, t1, t3, t4, t5, t6, encI, encB, encG, encR, List.getElem?_map, hgh, hgu, hgp, f2]
          refine GoB.dec (fun hc2 => absurd hc2 (by omega)) (fun _ => ?_)
          simp (disch := omega) only [↓wr, ↓reduceIte, wq, eq_self, ne_eq, implies_true, oneV, intOp, goI, splice, sBuild, fillE, nilB, isNil, Nat.reduceEqDiff, Nat.reduceAdd, Nat.reduceLT, Nat.reduceLeDiff, Int.reduceNeg, Int.reduceToNat, reduceCtorEq, decide_true, decide_false, t1, t3, t4, t5, t6, encI, encB, encG, encR, List.getElem?_map, hgh, hgu, hgp, hri]
          refine GoB.ne (fun hc2 => absurd (by omega) hc2) (fun _ => ?_)
          simp (disch := omega) only [↓wr, ↓reduceIte, wq, eq_self, ne_eq, implies_true, oneV, intOp, goI, splice, sBuild, fillE, nilB, isNil, Nat.reduceEqDiff, Nat.reduceAdd, Nat.reduceLT, Nat.reduceLeDiff, Int.reduceNeg, Int.reduceToNat, reduceCtorEq, decide_true, decide_false, t1, t3, t4, t5, t6]
          exact up_next hk (by omega) ⟨t1, t3, t4, t5, rfl⟩
        · rw [show (grown09 g true).getD i false = false by cases h : (grown09 g true).getD i false with | true => exact absurd (hpk.1 h) hkn | false => rfl] at hgp
          rw [plans_un hkn] at hgh hgu
          simp only [noP] at hgh hgu
          simp (disch := omega) only [↓wr, ↓reduceIte, wq, eq_self, ne_eq, implies_true, oneV, intOp, goI, splice, sBuild, fillE, nilB, isNil, Nat.reduceEqDiff, Nat.reduceAdd, Nat.reduceLT, Nat.reduceLeDiff, Int.reduceNeg, Int.reduceToNat, reduceCtorEq, decide_true, decide_false, t1, t3, t4, t5, t6, encI, encB, encG, encR, List.getElem?_map, hgh, hgu, hgp]
          have f1 : (false != decide ((0 : Int) > 0)) = false := by decide
          have f2 : (false != decide ((-1 : Int) ≥ 0)) = false := by decide
          simp (disch := omega) only [↓wr, ↓reduceIte, wq, eq_self, ne_eq, implies_true, oneV, intOp, goI, splice, sBuild, fillE, nilB, isNil, Nat.reduceEqDiff, Nat.reduceAdd, Nat.reduceLT, Nat.reduceLeDiff, Int.reduceNeg, Int.reduceToNat, reduceCtorEq, decide_true, decide_false, t1, t3, t4, t5, t6, encI, encB, encG, encR, List.getElem?_map, hgh, hgu, hgp, f1]
          simp (disch := omega) only [↓wr, ↓reduceIte, wq, eq_self, ne_eq, implies_true, oneV, intOp, goI, splice, sBuild, fillE, nilB, isNil, Nat.reduceEqDiff, Nat.reduceAdd, Nat.reduceLT, Nat.reduceLeDiff, Int.reduceNeg, Int.reduceToNat, reduceCtorEq, decide_true, decide_false, t1, t3, t4, t5, t6, encI, encB, encG, encR, List.getElem?_map, hgh, hgu, hgp, f2]
          refine GoB.dec (fun hc2 => absurd hc2 (by omega)) (fun _ => ?_)
          simp (disch := omega) only [↓wr, ↓reduceIte, wq, eq_self, ne_eq, implies_true, oneV, intOp, goI, splice, sBuild, fillE, nilB, isNil, Nat.reduceEqDiff, Nat.reduceAdd, Nat.reduceLT, Nat.reduceLeDiff, Int.reduceNeg, Int.reduceToNat, reduceCtorEq, decide_true, decide_false, t1, t3, t4, t5, t6, encI, encB, encG, encR, List.getElem?_map, hgh, hgu, hgp]
          exact up_next hk (by omega) ⟨t1, t3, t4, t5, rfl⟩
      · simp (disch := omega) only [↓wr, ↓reduceIte, wq, eq_self, ne_eq, implies_true, oneV, intOp, goI, splice, sBuild, fillE, nilB, isNil, Nat.reduceEqDiff, Nat.reduceAdd, Nat.reduceLT, Nat.reduceLeDiff, Int.reduceNeg, Int.reduceToNat, reduceCtorEq, decide_true, decide_false, t1, t3, t4, t5, t6]
        refine LoopG.up g.rules.length (fun i T H' => T 1 = .fptr (encG g) 0 ∧ T 3 = encI (hgts (plansG g)) ∧ T 4 = encI (rulesP g) ∧ T 5 = encB (grown09 g true) ∧ T 7 = gi i) ⟨t1, t3, t4, t5, rfl⟩ ?_
        clear t1 t3 t4 t5 t6
        rintro i k T H hk ⟨t1, t3, t4, t5, t7⟩
        simp (disch := omega) only [↓wr, ↓reduceIte, wq, eq_self, ne_eq, implies_true, oneV, intOp, goI, splice, sBuild, fillE, nilB, isNil, Nat.reduceEqDiff, Nat.reduceAdd, Nat.reduceLT, Nat.reduceLeDiff, Int.reduceNeg, Int.reduceToNat, reduceCtorEq, decide_true, decide_false, B_gerundlaw14_LeastLow_2, t1, t3, t4, t5, t7, encG]
        refine GoB.dec (fun hc2 => ?_) (fun hc2 => ?_)
        · have hg2 : g.rules[i]? = some (g.rules[i]'(by omega)) := List.getElem?_eq_getElem (by omega)
          have hmem : g.rules[i]'(by omega) ∈ g.rules := List.getElem_mem _
          generalize g.rules[i]'(by omega) = r at hg2 hmem
          simp (disch := omega) only [↓wr, ↓reduceIte, wq, eq_self, ne_eq, implies_true, oneV, intOp, goI, splice, sBuild, fillE, nilB, isNil, Nat.reduceEqDiff, Nat.reduceAdd, Nat.reduceLT, Nat.reduceLeDiff, Int.reduceNeg, Int.reduceToNat, reduceCtorEq, decide_true, decide_false, t1, t3, t4, t5, t7, encG, encR, encI, List.getElem?_map, hg2]
          intro n hn
          have hr6 := hf.right r hmem
          try simp (disch := omega) only [↓wr, ↓reduceIte, wq, eq_self, ne_eq, implies_true, oneV, intOp, goI, splice, sBuild, fillE, nilB, isNil, Nat.reduceEqDiff, Nat.reduceAdd, Nat.reduceLT, Nat.reduceLeDiff, Int.reduceNeg, Int.reduceToNat, reduceCtorEq, decide_true, decide_false, t1, t3, t4, t5, t7]
          refine LoopG.up r.right.length (fun q T H' => T 1 = .fptr (encG g) 0 ∧ T 3 = encI (hgts (plansG g)) ∧ T 4 = encI (rulesP g) ∧ T 5 = encB (grown09 g true) ∧ T 7 = gi i ∧ T 8 = .ptr n 0 0 ∧ H' n = .arr 3 [encR r] ∧ T 11 = gi q ∧
            (∃ t : Int, T 9 = gi t ∧ 0 ≤ t ∧ t ≤ 1000 ∧ topH (hgts (plansG g)) (r.right.drop q) t = topH (hgts (plansG g)) r.right 0) ∧ T 10 = gb (allG (r.right.take q) (grown09 g true) true)) ⟨t1, t3, t4, t5, t7, rfl, by simp [View.set, encR, encI], rfl, ⟨0, rfl, by omega, by omega, rfl⟩, rfl⟩ ?_
          clear t1 t3 t4 t5 t7 hn
          rintro q m T H hq ⟨t1, t3, t4, t5, t7, t8, hH, t11, ⟨t, t9, ht0, ht1, htop⟩, t10⟩
          simp (disch := omega) only [↓wr, ↓reduceIte, wq, eq_self, ne_eq, implies_true, oneV, intOp, goI, splice, sBuild, fillE, nilB, isNil, Nat.reduceEqDiff, Nat.reduceAdd, Nat.reduceLT, Nat.reduceLeDiff, Int.reduceNeg, Int.reduceToNat, reduceCtorEq, decide_true, decide_false, B_gerundlaw14_LeastLow_1, t1, t3, t4, t5, t7, t8, t9, t10, t11, hH, encR, encI]
          refine GoB.dec (fun hc3 => ?_) (fun hc3 => ?_)
          · have hg3 : r.right[q]? = some (r.right[q]'(by omega)) := List.getElem?_eq_getElem (by omega)
            have hmem3 : r.right[q]'(by omega) ∈ r.right := List.getElem_mem _
            have htk : r.right.take (q + 1) = r.right.take q ++ [r.right[q]'(by omega)] := by rw [List.take_add_one, hg3]; rfl
            rw [drop_at (show q < r.right.length by omega), topH] at htop
            generalize r.right[q]'(by omega) = x at hg3 hmem3 htk htop
            have hx := (hg.rule r hmem).2.2.2 x hmem3
            unfold In64 at hx
            have hall : allG (r.right.take (q + 1)) (grown09 g true) true = (allG (r.right.take q) (grown09 g true) true && (if 0 ≤ x then true else (grown09 g true).getD (-1 - x).toNat false)) := by
              rw [htk]; simp [allG]
            simp (disch := omega) only [↓wr, ↓reduceIte, wq, eq_self, ne_eq, implies_true, oneV, intOp, goI, splice, sBuild, fillE, nilB, isNil, Nat.reduceEqDiff, Nat.reduceAdd, Nat.reduceLT, Nat.reduceLeDiff, Int.reduceNeg, Int.reduceToNat, reduceCtorEq, decide_true, decide_false, t1, t3, t4, t5, t7, t8, t9, t10, t11, hH, encR, encI, List.getElem?_map, hg3]
            refine GoB.dec (fun hx0 => ?_) (fun hx0 => ?_)
            · have hm := hf.neg hmem hmem3 hx0
              have hgm := hAt_get (h := hgts (plansG g)) (m := nonN x) (by simp; unfold nonN; omega)
              have hso : HsOk (hgts (plansG g)) := hs_stage z3 z2
              have hsx := hso (nonN x)
              have hgb : (grown09 g true)[nonN x]? = some ((grown09 g true).getD (-1 - x).toNat false) := by simp [List.getD_eq_getElem?_getD, show (-1 - x).toNat < (grown09 g true).length by omega]
              rw [if_pos hx0] at htop
              rw [if_neg (show ¬ 0 ≤ x by omega)] at hall
              generalize hAt (hgts (plansG g)) (nonN x) = hv at hgm hsx htop
              generalize (grown09 g true).getD (-1 - x).toNat false = bv at hgb hall
              generalize allG (r.right.take q) (grown09 g true) true = b0 at t10 hall
              cases b0 with
              | true =>
                simp (disch := omega) only [↓wr, ↓reduceIte, wq, eq_self, ne_eq, implies_true, oneV, intOp, goI, splice, sBuild, fillE, nilB, isNil, Nat.reduceEqDiff, Nat.reduceAdd, Nat.reduceLT, Nat.reduceLeDiff, Int.reduceNeg, Int.reduceToNat, reduceCtorEq, decide_true, decide_false, t1, t3, t4, t5, t7, t8, t9, t10, t11, hH, encR, encI, encB, List.getElem?_map, hg3, hgm, hgb, max_mm]
                exact up_next hq (by omega) ⟨t1, t3, t4, t5, t7, t8, hH, rfl, ⟨_, rfl, by omega, by omega, htop⟩, by rw [hall]; rfl⟩
              | false =>
                simp (disch := omega) only [↓wr, ↓reduceIte, wq, eq_self, ne_eq, implies_true, oneV, intOp, goI, splice, sBuild, fillE, nilB, isNil, Nat.reduceEqDiff, Nat.reduceAdd, Nat.reduceLT, Nat.reduceLeDiff, Int.reduceNeg, Int.reduceToNat, reduceCtorEq, decide_true, decide_false, t1, t3, t4, t5, t7, t8, t9, t10, t11, hH, encR, encI, encB, List.getElem?_map, hg3, hgm, hgb, max_mm]
                exact up_next hq (by omega) ⟨t1, t3, t4, t5, t7, t8, hH, rfl, ⟨_, rfl, by omega, by omega, htop⟩, by rw [hall]; rfl⟩
            · rw [if_neg hx0] at htop
              rw [if_pos (show 0 ≤ x by omega), Bool.and_true] at hall
              simp (disch := omega) only [↓wr, ↓reduceIte, wq, eq_self, ne_eq, implies_true, oneV, intOp, goI, splice, sBuild, fillE, nilB, isNil, Nat.reduceEqDiff, Nat.reduceAdd, Nat.reduceLT, Nat.reduceLeDiff, Int.reduceNeg, Int.reduceToNat, reduceCtorEq, decide_true, decide_false, t1, t3, t4, t5, t7, t8, t9, t10, t11]
              exact up_next hq (by omega) ⟨t1, t3, t4, t5, t7, t8, hH, rfl, ⟨t, t9, ht0, ht1, htop⟩, by rw [hall]; exact t10⟩
          · rw [List.drop_eq_nil_of_le (by omega), topH] at htop
            rw [List.take_of_length_le (by omega)] at t10
            have hl0 := hf.left r hmem
            have hK : allG r.right (grown09 g true) true = true ↔ AllK (plansG g) r.right := by
              rw [allG_iff]
              exact ⟨fun h x hx hx0 => (prod_known hr _).1 (h x hx hx0), fun h x hx hx0 => (prod_known hr _).2 (h x hx hx0)⟩
            have hgl := hAt_get (h := hgts (plansG g)) (m := r.left.toNat) (by simp; omega)
            rw [hAt_map] at hgl
            have hgu := rulesP_get (g := g) (m := r.left.toNat) (by omega)
            have hlow := fun ha => plans_low hmem (show r.left.toNat < g.nons.length by omega) ha
            have htt : AllK (plansG g) r.right → (sumP (plansG g) r.right zeroP).1.height = t := fun ha => by
              rw [topH_sum _ _ ha]; exact htop.symm
            have hsame : (pAt (plansG g) r.left.toNat).rule = i → AllK (plansG g) r.right ∧ (pAt (plansG g) r.left.toNat).height = t + 1 := fun hi => by
              have hkn : Known (plansG g) r.left.toNat := by unfold Known; omega
              obtain ⟨ri, r', hri, _, ha, hp, _⟩ := plans_least hkn
              have : ri = i := by rw [hp] at hi; simp only [planOf] at hi; omega
              subst this
              rw [hg2] at hri; simp at hri; subst hri
              exact ⟨ha, by rw [hp, ← htt ha]; rfl⟩
            have hbd := stage_ok (g := g) z3 z2 r.left.toNat
            have hbd : OkP (pAt (plansG g) r.left.toNat) := hbd
            unfold OkP at hbd
            generalize pAt (plansG g) r.left.toNat = p at hgl hgu hlow hsame hbd
            simp (disch := omega) only [↓wr, ↓reduceIte, wq, eq_self, ne_eq, implies_true, oneV, intOp, goI, splice, sBuild, fillE, nilB, isNil, Nat.reduceEqDiff, Nat.reduceAdd, Nat.reduceLT, Nat.reduceLeDiff, Int.reduceNeg, Int.reduceToNat, reduceCtorEq, decide_true, decide_false, t1, t3, t4, t5, t7, t8, t9, t10, t11]
            refine GoB.split (fun hall => ?_) (fun hall => ?_)
            · have ha := hK.1 hall
              have h1 := (hlow ha).2
              rw [htt ha] at h1
              simp (disch := omega) only [↓wr, ↓reduceIte, wq, eq_self, ne_eq, implies_true, oneV, intOp, goI, splice, sBuild, fillE, nilB, isNil, Nat.reduceEqDiff, Nat.reduceAdd, Nat.reduceLT, Nat.reduceLeDiff, Int.reduceNeg, Int.reduceToNat, reduceCtorEq, decide_true, decide_false, t1, t3, t4, t5, t7, t8, t9, t10, t11, hH, encR, encI, List.getElem?_map, hgl, hgu]
              refine GoB.dec (fun hc4 => absurd hc4 (by omega)) (fun _ => ?_)
              simp (disch := omega) only [↓wr, ↓reduceIte, wq, eq_self, ne_eq, implies_true, oneV, intOp, goI, splice, sBuild, fillE, nilB, isNil, Nat.reduceEqDiff, Nat.reduceAdd, Nat.reduceLT, Nat.reduceLeDiff, Int.reduceNeg, Int.reduceToNat, reduceCtorEq, decide_true, decide_false, t1, t3, t4, t5, t7, t8, t9, t10, t11, hH, encR, encI, List.getElem?_map, hgl, hgu]
              refine GoB.eq (fun hi => ?_) (fun hi => ?_)
              · rw [hall] at t10
                simp (disch := omega) only [↓wr, ↓reduceIte, wq, eq_self, ne_eq, implies_true, oneV, intOp, goI, splice, sBuild, fillE, nilB, isNil, Nat.reduceEqDiff, Nat.reduceAdd, Nat.reduceLT, Nat.reduceLeDiff, Int.reduceNeg, Int.reduceToNat, reduceCtorEq, decide_true, decide_false, t1, t3, t4, t5, t7, t8, t9, t10, t11, hH, encR, encI, List.getElem?_map, hgl, hgu]
                refine GoB.ne (fun h => absurd (hsame hi).2 h) (fun _ => ?_)
                simp (disch := omega) only [↓wr, ↓reduceIte, wq, eq_self, ne_eq, implies_true, oneV, intOp, goI, splice, sBuild, fillE, nilB, isNil, Nat.reduceEqDiff, Nat.reduceAdd, Nat.reduceLT, Nat.reduceLeDiff, Int.reduceNeg, Int.reduceToNat, reduceCtorEq, decide_true, decide_false, t1, t3, t4, t5, t7, t8, t9, t10, t11]
                exact up_next hk (by omega) ⟨t1, t3, t4, t5, rfl⟩
              · simp (disch := omega) only [↓wr, ↓reduceIte, wq, eq_self, ne_eq, implies_true, oneV, intOp, goI, splice, sBuild, fillE, nilB, isNil, Nat.reduceEqDiff, Nat.reduceAdd, Nat.reduceLT, Nat.reduceLeDiff, Int.reduceNeg, Int.reduceToNat, reduceCtorEq, decide_true, decide_false, t1, t3, t4, t5, t7, t8, t9, t10, t11]
                exact up_next hk (by omega) ⟨t1, t3, t4, t5, rfl⟩
            · simp (disch := omega) only [↓wr, ↓reduceIte, wq, eq_self, ne_eq, implies_true, oneV, intOp, goI, splice, sBuild, fillE, nilB, isNil, Nat.reduceEqDiff, Nat.reduceAdd, Nat.reduceLT, Nat.reduceLeDiff, Int.reduceNeg, Int.reduceToNat, reduceCtorEq, decide_true, decide_false, t1, t3, t4, t5, t7, t8, t9, t10, t11, hH, encR, encI, List.getElem?_map, hgl, hgu]
              refine GoB.eq (fun hi => absurd (hK.2 (hsame hi).1) (by rw [hall]; simp)) (fun _ => ?_)
              simp (disch := omega) only [↓wr, ↓reduceIte, wq, eq_self, ne_eq, implies_true, oneV, intOp, goI, splice, sBuild, fillE, nilB, isNil, Nat.reduceEqDiff, Nat.reduceAdd, Nat.reduceLT, Nat.reduceLeDiff, Int.reduceNeg, Int.reduceToNat, reduceCtorEq, decide_true, decide_false, t1, t3, t4, t5, t7, t8, t9, t10, t11]
              exact up_next hk (by omega) ⟨t1, t3, t4, t5, rfl⟩
        · simp (disch := omega) only [↓wr, ↓reduceIte, wq, eq_self, ne_eq, implies_true, oneV, intOp, goI, splice, sBuild, fillE, nilB, isNil, Nat.reduceEqDiff, Nat.reduceAdd, Nat.reduceLT, Nat.reduceLeDiff, Int.reduceNeg, Int.reduceToNat, reduceCtorEq, decide_true, decide_false, t1, t3, t4, t5, t7]
          try rfl
    · simp (disch := omega) only [↓wr, ↓reduceIte, wq, eq_self, ne_eq, implies_true, oneV, intOp, goI, splice, sBuild, fillE, nilB, isNil, Nat.reduceEqDiff, Nat.reduceAdd, Nat.reduceLT, Nat.reduceLeDiff, Int.reduceNeg, Int.reduceToNat, reduceCtorEq, decide_true, decide_false]
end Gv

/-
  The law on the parts of a least sentence.
  Conditions: lists that are no longer than an int says, numbers that are ints.
-/
set_option linter.unusedSimpArgs false
set_option maxRecDepth 100000
namespace Gv
open Go Go.Proofs

theorem wordA_bad {g : Gram} {l : List Int} (h : (wordA g l).2 ≠ 0) : (wordA g l).1 = [] := by
  unfold wordA at h ⊢
  split
  · rename_i h1
    rw [if_pos h1] at h
    split
    · rfl
    · rename_i h2
      rw [if_neg h2] at h
      split
      · rfl
      · rename_i h3
        rw [if_neg h3] at h; simp at h
  · rfl
/-- What has a least sentence: so has each part of it. -/
theorem wordA_part {g : Gram} {a l b : List Int} (h : (wordA g (a ++ l ++ b)).2 = 0) : wordA g l = (wordD g (plansG g) g.nons.length l, 0) := by
  unfold wordA at h
  split at h
  · rename_i h1
    split at h
    · simp at h
    · rename_i h2
      split at h
      · simp at h
      · rename_i h3
        simp only [List.all_append, Bool.and_eq_true] at h1
        have hak := (sumP_ok (plansG g) (a ++ l ++ b) zeroP).1 (by simpa using h2)
        have hl : AllK (plansG g) l := fun x hx => hak x (by simp [hx])
        have t1 := size_tree g g.nons.length (a ++ l ++ b) zeroP (up_all hak) pos_zero
        have t2 := size_tree g g.nons.length l zeroP (up_all hl) pos_zero
        simp only [treeD_app, wordD_app, List.length_append, zeroP] at t1 t2
        have h4 : (sumP (plansG g) l zeroP).2 = true := (sumP_ok _ _ _).2 hl
        simp only [zeroP] at h3
        unfold wordA
        rw [if_pos (by rw [Bool.and_eq_true]; exact ⟨h1.1, h1.2.1.2⟩), if_neg (by rw [h4]; simp), if_neg]
        simp only [zeroP]
        omega
  · simp at h

theorem slice_take {l : List Int} {k : Nat} (h : k ≤ l.length) : sSlice 1 (.fro (l.map fun x => [gi x])) none (some (gi k)) = some (.fro ((l.take k).map fun x => [gi x]), .none, []) := by
  simp [sSlice, bound, asNat, h, List.all_map, List.map_take]
theorem slice_drop {l : List Int} {k : Nat} (h : k ≤ l.length) : sSlice 1 (.fro (l.map fun x => [gi x])) (some (gi k)) none = some (.fro ((l.drop k).map fun x => [gi x]), .none, []) := by
  simp [sSlice, bound, asNat, h, List.all_map, List.map_drop]
  rw [List.take_of_length_le (by simp)]

def S_gerundlaw14_LeastParts : SF := ⟨.seq (.region false [⟨none, [((some 3), .op (.frz (.tmp 0))), ((some 6), .op (.mov (.val (.val (.bool false)))))]⟩]) <|
  .seq (.seq (.region false [⟨none, [((some 14), .call (.val (.fn 31 [] [])) []), ((some 15), .op (.not (.tmp 14)))]⟩]) <|
  .cond (.tmp 15) (.seq (.region false [⟨none, [((some 6), .op (.mov (.val (.val (.bool false)))))]⟩]) <|
  .ret) (.skip)) <|
  .seq (.seq (.region false [⟨none, [((some 16), .op (.load (some 4) (.tmp 3))), ((some 17), .call (.val (.fn 13 [] [])) [(.tmp 16)]), ((some 18), .op (.mov (.tmp 17)))]⟩, ⟨(some (18, false)), [((some 19), .op (.mov (.tmp 1))), ((some 20), .op (.len (.tmp 19))), ((some 21), .op (.arith .gtr (.tmp 20) (.val (.val (.int .i64 50)))))]⟩, ⟨none, [((some 22), .op (.pick (.tmp 18) (.val (.val (.bool true))) (.tmp 21)))]⟩]) <|
  .cond (.tmp 22) (.seq (.region false [⟨none, [((some 6), .op (.mov (.val (.val (.bool true)))))]⟩]) <|
  .ret) (.skip)) <|
  .seq (.region false [⟨none, [((some 23), .op (.mov (.tmp 2))), ((some 24), .op (.conv .i64 (.tmp 23))), ((some 25), .op (.mov (.tmp 1))), ((some 26), .op (.len (.tmp 25))), ((some 27), .op (.arith .add (.tmp 26) (.val (.val (.int .i64 1))))), ((some 28), .op (.arith .rem (.tmp 24) (.tmp 27))), ((some 7), .op (.mov (.tmp 28)))]⟩]) <|
  .seq (.region false [⟨none, [((some 30), .op (.load (some 4) (.tmp 3))), ((some 31), .op (.mov (.tmp 1))), ((some 32), .call (.val (.fn 38 [] [])) [(.tmp 30), (.tmp 31)]), ((some 29), .op (.mov (.tmp 32))), ((some 33), .op (.ext 0 (.tmp 29))), ((some 34), .op (.ext 1 (.tmp 29))), ((some 8), .op (.mov (.tmp 33))), ((some 9), .op (.mov (.tmp 34)))]⟩]) <|
  .seq (.seq (.region false [⟨none, [((some 35), .op (.mov (.tmp 9))), ((some 36), .op (.arith .neq (.tmp 35) (.val (.val (.int .i64 0)))))]⟩]) <|
  .cond (.tmp 36) (.seq (.region false [⟨none, [((some 37), .op (.mov (.tmp 8))), ((some 38), .op (.len (.tmp 37))), ((some 39), .op (.arith .eql (.tmp 38) (.val (.val (.int .i64 0))))), ((some 6), .op (.mov (.tmp 39)))]⟩]) <|
  .ret) (.skip)) <|
  .seq (.region false [⟨none, [((some 41), .op (.load (some 4) (.tmp 3))), ((some 42), .op (.mov (.tmp 1))), ((some 43), .op (.mov (.tmp 7))), ((some 44), .op (.slice 1 (.tmp 42) none (some (.tmp 43)))), ((some 45), .call (.val (.fn 38 [] [])) [(.tmp 41), (.tmp 44)]), ((some 40), .op (.mov (.tmp 45))), ((some 46), .op (.ext 0 (.tmp 40))), ((some 47), .op (.ext 1 (.tmp 40))), ((some 10), .op (.mov (.tmp 46))), ((some 11), .op (.mov (.tmp 47)))]⟩]) <|
  .seq (.region false [⟨none, [((some 49), .op (.load (some 4) (.tmp 3))), ((some 50), .op (.mov (.tmp 1))), ((some 51), .op (.mov (.tmp 7))), ((some 52), .op (.slice 1 (.tmp 50) (some (.tmp 51)) none)), ((some 53), .call (.val (.fn 38 [] [])) [(.tmp 49), (.tmp 52)]), ((some 48), .op (.mov (.tmp 53))), ((some 54), .op (.ext 0 (.tmp 48))), ((some 55), .op (.ext 1 (.tmp 48))), ((some 12), .op (.mov (.tmp 54))), ((some 13), .op (.mov (.tmp 55)))]⟩]) <|
  .seq (.region false [⟨none, [((some 56), .op (.mov (.tmp 11))), ((some 57), .op (.arith .eql (.tmp 56) (.val (.val (.int .i64 0))))), ((some 58), .op (.mov (.tmp 57)))]⟩, ⟨(some (58, true)), [((some 59), .op (.mov (.tmp 13))), ((some 60), .op (.arith .eql (.tmp 59) (.val (.val (.int .i64 0)))))]⟩, ⟨none, [((some 61), .op (.pick (.tmp 58) (.tmp 60) (.val (.val (.bool false))))), ((some 62), .op (.mov (.tmp 61)))]⟩, ⟨(some (62, true)), [((some 63), .op (.mov (.val (.emp 2)))), ((some 64), .op (.mov (.tmp 10))), ((some 65), .op (.app 1 8 (.tmp 63) (.tmp 64))), ((some 66), .op (.mov (.tmp 12))), ((some 67), .op (.app 1 8 (.tmp 65) (.tmp 66))), ((some 68), .op (.mov (.tmp 8))), ((some 69), .call (.val (.fn 27 [] [])) [(.tmp 67), (.tmp 68)])]⟩, ⟨none, [((some 70), .op (.pick (.tmp 62) (.tmp 69) (.val (.val (.bool false))))), ((some 71), .op (.mov (.tmp 70)))]⟩, ⟨(some (71, true)), [((some 72), .op (.mov (.tmp 8))), ((some 73), .op (.len (.tmp 72))), ((some 74), .op (.arith .leq (.tmp 73) (.val (.val (.int .i64 60)))))]⟩, ⟨none, [((some 75), .op (.pick (.tmp 71) (.tmp 74) (.val (.val (.bool false))))), ((some 6), .op (.mov (.tmp 75)))]⟩]) <|
  .ret,
  [.tmp 6], 76⟩
theorem S_gerundlaw14_LeastParts_ok : compF Tryz.prog 11 [3] = some S_gerundlaw14_LeastParts := by kernel_rfl

set_option maxHeartbeats 4000000 in
theorem pc_LeastParts (g : Gram) (hg : g.Ok) (l : List Int) (hl : Short l) (hn : ∀ x ∈ l, In64 x) (n : Int) (hn0 : 0 ≤ n) (hn1 : n ≤ 255) : PCall Tryz.prog 11 [.agg (encG g), encI l, .val (.int .u8 n)] (gb true) := by
  refine PCall.val (by
    intro v hv; simp at hv
    rcases hv with rfl | rfl | rfl
    · exact tree_agg _ (encG_tree g)
    · exact encI_tree l
    · exact .val _) fun H => ?_
  refine MCall.of mixed S_gerundlaw14_LeastParts_ok ?_
  unfold Short at hl
  simp (disch := omega) only [↓wr, ↓reduceIte, wq, eq_self, ne_eq, implies_true, oneV, intOp, goI, splice, sBuild, fillE, nilB, isNil, Nat.reduceEqDiff, Nat.reduceAdd, Nat.reduceLT, Nat.reduceLeDiff, Int.reduceNeg, Int.reduceToNat, reduceCtorEq, decide_true, decide_false, S_gerundlaw14_LeastParts, encG, encS]
  refine CallG.pure pc_alive14 (by kernel_rfl) ?_
  simp (disch := omega) only [↓wr, ↓reduceIte, wq, eq_self, ne_eq, implies_true, oneV, intOp, goI, splice, sBuild, fillE, nilB, isNil, Nat.reduceEqDiff, Nat.reduceAdd, Nat.reduceLT, Nat.reduceLeDiff, Int.reduceNeg, Int.reduceToNat, reduceCtorEq, decide_true, decide_false, encG, encS]
  refine CallG.pure (pc_great g) (by kernel_rfl) ?_
  simp (disch := omega) only [↓wr, ↓reduceIte, wq, eq_self, ne_eq, implies_true, oneV, intOp, goI, splice, sBuild, fillE, nilB, isNil, Nat.reduceEqDiff, Nat.reduceAdd, Nat.reduceLT, Nat.reduceLeDiff, Int.reduceNeg, Int.reduceToNat, reduceCtorEq, decide_true, decide_false]
  refine GoB.split (fun e => ?_) (fun e => ?_)
  · simp (disch := omega) only [↓wr, ↓reduceIte, wq, eq_self, ne_eq, implies_true, oneV, intOp, goI, splice, sBuild, fillE, nilB, isNil, Nat.reduceEqDiff, Nat.reduceAdd, Nat.reduceLT, Nat.reduceLeDiff, Int.reduceNeg, Int.reduceToNat, reduceCtorEq, decide_true, decide_false]
  · have hs : g.Small := great_small e
    simp (disch := omega) only [↓wr, ↓reduceIte, wq, eq_self, ne_eq, implies_true, oneV, intOp, goI, splice, sBuild, fillE, nilB, isNil, Nat.reduceEqDiff, Nat.reduceAdd, Nat.reduceLT, Nat.reduceLeDiff, Int.reduceNeg, Int.reduceToNat, reduceCtorEq, decide_true, decide_false, encI]
    refine GoB.dec (fun hc => ?_) (fun hc => ?_)
    · simp (disch := omega) only [↓wr, ↓reduceIte, wq, eq_self, ne_eq, implies_true, oneV, intOp, goI, splice, sBuild, fillE, nilB, isNil, Nat.reduceEqDiff, Nat.reduceAdd, Nat.reduceLT, Nat.reduceLeDiff, Int.reduceNeg, Int.reduceToNat, reduceCtorEq, decide_true, decide_false]
    · simp (disch := omega) only [↓wr, ↓reduceIte, wq, eq_self, ne_eq, implies_true, oneV, intOp, goI, splice, sBuild, fillE, nilB, isNil, Nat.reduceEqDiff, Nat.reduceAdd, Nat.reduceLT, Nat.reduceLeDiff, Int.reduceNeg, Int.reduceToNat, reduceCtorEq, decide_true, decide_false, encI, encG, encS]
      obtain ⟨k, hk, hkl⟩ : ∃ k : Nat, n.tmod ((l.length : Int) + 1) = k ∧ k ≤ l.length := by
        have h1 := Int.tmod_nonneg ((l.length : Int) + 1) hn0
        have h2 := Int.tmod_lt_of_pos n (show (0 : Int) < (l.length : Int) + 1 by omega)
        exact ⟨(n.tmod ((l.length : Int) + 1)).toNat, by omega, by omega⟩
      rw [if_neg (by omega), hk]
      have hw := (pn_lWord g hg hs l (by omega) hn).pure
      have hwA := (pn_lWord g hg hs (l.take k) (by simp; omega) (fun x hx => hn x (List.mem_of_mem_take hx))).pure
      have hwB := (pn_lWord g hg hs (l.drop k) (by simp; omega) (fun x hx => hn x (List.mem_of_mem_drop hx))).pure
      have hbad := wordA_bad (g := g) (l := l)
      have hp1 := wordA_part (g := g) (a := []) (l := l) (b := [])
      have hp2 := wordA_part (g := g) (a := []) (l := l.take k) (b := l.drop k)
      have hp3 := wordA_part (g := g) (a := l.take k) (l := l.drop k) (b := [])
      have hsh := wordA_short (g := g) l
      rw [List.nil_append, List.append_nil] at hp1
      rw [List.nil_append, List.take_append_drop] at hp2
      rw [List.append_nil, List.take_append_drop] at hp3
      simp (disch := omega) only [↓wr, ↓reduceIte, wq, eq_self, ne_eq, implies_true, oneV, intOp, goI, splice, sBuild, fillE, nilB, isNil, Nat.reduceEqDiff, Nat.reduceAdd, Nat.reduceLT, Nat.reduceLeDiff, Int.reduceNeg, Int.reduceToNat, reduceCtorEq, decide_true, decide_false, encI, encG, encS]
      refine CallG.pure hw (by kernel_rfl) ?_
      have happ := wordD_app g (plansG g) g.nons.length (l.take k) (l.drop k)
      rw [List.take_append_drop] at happ
      by_cases hz : (wordA g l).2 = 0
      · have e1 := hp1 hz
        rw [hp2 hz] at hwA
        rw [hp3 hz] at hwB
        rw [e1] at hsh ⊢
        rw [happ] at hsh ⊢
        simp only at hsh
        generalize wordD g (plansG g) g.nons.length (l.take k) = a at hsh hwA ⊢
        generalize wordD g (plansG g) g.nons.length (l.drop k) = b at hsh hwB ⊢
        simp (disch := omega) only [↓wr, ↓reduceIte, wq, eq_self, ne_eq, implies_true, oneV, intOp, goI, splice, sBuild, fillE, nilB, isNil, Nat.reduceEqDiff, Nat.reduceAdd, Nat.reduceLT, Nat.reduceLeDiff, Int.reduceNeg, Int.reduceToNat, reduceCtorEq, decide_true, decide_false, outA, encI]
        refine GoB.ne (fun hc => absurd rfl hc) (fun _ => ?_)
        simp (disch := omega) only [↓wr, ↓reduceIte, wq, eq_self, ne_eq, implies_true, oneV, intOp, goI, splice, sBuild, fillE, nilB, isNil, Nat.reduceEqDiff, Nat.reduceAdd, Nat.reduceLT, Nat.reduceLeDiff, Int.reduceNeg, Int.reduceToNat, reduceCtorEq, decide_true, decide_false, encI, encG, encS]
        rw [slice_take hkl]
        simp (disch := omega) only [↓wr, ↓reduceIte, wq, eq_self, ne_eq, implies_true, oneV, intOp, goI, splice, sBuild, fillE, nilB, isNil, Nat.reduceEqDiff, Nat.reduceAdd, Nat.reduceLT, Nat.reduceLeDiff, Int.reduceNeg, Int.reduceToNat, reduceCtorEq, decide_true, decide_false, encI, encG, encS]
        refine CallG.pure hwA (by kernel_rfl) ?_
        simp (disch := omega) only [↓wr, ↓reduceIte, wq, eq_self, ne_eq, implies_true, oneV, intOp, goI, splice, sBuild, fillE, nilB, isNil, Nat.reduceEqDiff, Nat.reduceAdd, Nat.reduceLT, Nat.reduceLeDiff, Int.reduceNeg, Int.reduceToNat, reduceCtorEq, decide_true, decide_false, outA, encI, encG, encS]
        rw [slice_drop hkl]
        simp (disch := omega) only [↓wr, ↓reduceIte, wq, eq_self, ne_eq, implies_true, oneV, intOp, goI, splice, sBuild, fillE, nilB, isNil, Nat.reduceEqDiff, Nat.reduceAdd, Nat.reduceLT, Nat.reduceLeDiff, Int.reduceNeg, Int.reduceToNat, reduceCtorEq, decide_true, decide_false, encI, encG, encS]
        refine CallG.pure hwB (by kernel_rfl) ?_
        simp (disch := omega) only [↓wr, ↓reduceIte, wq, eq_self, ne_eq, implies_true, oneV, intOp, goI, splice, sBuild, fillE, nilB, isNil, Nat.reduceEqDiff, Nat.reduceAdd, Nat.reduceLT, Nat.reduceLeDiff, Int.reduceNeg, Int.reduceToNat, reduceCtorEq, decide_true, decide_false, outA, encI, encG, encS]
        refine GoB.eq (fun _ => ?_) (fun hc => absurd rfl hc)
        simp (disch := omega) only [↓wr, ↓reduceIte, wq, eq_self, ne_eq, implies_true, oneV, intOp, goI, splice, sBuild, fillE, nilB, isNil, Nat.reduceEqDiff, Nat.reduceAdd, Nat.reduceLT, Nat.reduceLeDiff, Int.reduceNeg, Int.reduceToNat, reduceCtorEq, decide_true, decide_false]
        refine GoB.eq (fun _ => ?_) (fun hc => absurd rfl hc)
        simp (disch := omega) only [↓wr, ↓reduceIte, wq, eq_self, ne_eq, implies_true, oneV, intOp, goI, splice, sBuild, fillE, nilB, isNil, Nat.reduceEqDiff, Nat.reduceAdd, Nat.reduceLT, Nat.reduceLeDiff, Int.reduceNeg, Int.reduceToNat, reduceCtorEq, decide_true, decide_false]
        simp only [List.length_append] at hsh
        refine goApp_all (OwnA.nil (sz := 1) (k := 2)) (by simp [List.all_map, cellOk]) (by unfold limit; simp; omega) (by unfold limit; simp; omega) ?_
        intro u1 H1 ho1 _
        simp (disch := omega) only [↓wr, ↓reduceIte, wq, eq_self, ne_eq, implies_true, oneV, intOp, goI, splice, sBuild, fillE, nilB, isNil, Nat.reduceEqDiff, Nat.reduceAdd, Nat.reduceLT, Nat.reduceLeDiff, Int.reduceNeg, Int.reduceToNat, reduceCtorEq, decide_true, decide_false]
        refine goApp_all ho1 (by simp [List.all_map, cellOk]) (by unfold limit; simp; omega) (by unfold limit; simp; omega) ?_
        intro u2 H2 ho2 _
        simp (disch := omega) only [↓wr, ↓reduceIte, wq, eq_self, ne_eq, implies_true, oneV, intOp, goI, splice, sBuild, fillE, nilB, isNil, Nat.reduceEqDiff, Nat.reduceAdd, Nat.reduceLT, Nat.reduceLeDiff, Int.reduceNeg, Int.reduceToNat, reduceCtorEq, decide_true, decide_false]
        rw [List.nil_append, ← List.map_append] at ho2
        have hints := pc_Ints (a ++ b) (a ++ b) (by unfold Short; simp; omega)
        simp only [encI] at hints
        refine CallG.lend hints (by kernel_rfl) (.val _) ⟨Lent.own ho2 fun e he v hv => ?_, Lent.tree (encI_tree (a ++ b)), trivial⟩ ?_
        · obtain ⟨x, _, rfl⟩ := List.mem_map.1 he
          simp at hv; subst hv; exact .val _
        simp (disch := omega) only [↓wr, ↓reduceIte, wq, eq_self, ne_eq, implies_true, oneV, intOp, goI, splice, sBuild, fillE, nilB, isNil, Nat.reduceEqDiff, Nat.reduceAdd, Nat.reduceLT, Nat.reduceLeDiff, Int.reduceNeg, Int.reduceToNat, reduceCtorEq, decide_true, decide_false]
        refine GoB.split (fun _ => ?_) (fun e => absurd e (by simp))
        simp (disch := omega) only [↓wr, ↓reduceIte, wq, eq_self, ne_eq, implies_true, oneV, intOp, goI, splice, sBuild, fillE, nilB, isNil, Nat.reduceEqDiff, Nat.reduceAdd, Nat.reduceLT, Nat.reduceLeDiff, Int.reduceNeg, Int.reduceToNat, reduceCtorEq, decide_true, decide_false, List.length_append]
        simp; omega
      · have e1 := hbad hz
        generalize wordA g l = y at hz e1
        obtain ⟨y1, y2⟩ := y
        simp only at e1 hz
        subst e1
        simp (disch := omega) only [↓wr, ↓reduceIte, wq, eq_self, ne_eq, implies_true, oneV, intOp, goI, splice, sBuild, fillE, nilB, isNil, Nat.reduceEqDiff, Nat.reduceAdd, Nat.reduceLT, Nat.reduceLeDiff, Int.reduceNeg, Int.reduceToNat, reduceCtorEq, decide_true, decide_false, outA, encI]
        refine GoB.ne (fun _ => ?_) (fun hc => absurd hc hz)
        simp (disch := omega) only [↓wr, ↓reduceIte, wq, eq_self, ne_eq, implies_true, oneV, intOp, goI, splice, sBuild, fillE, nilB, isNil, Nat.reduceEqDiff, Nat.reduceAdd, Nat.reduceLT, Nat.reduceLeDiff, Int.reduceNeg, Int.reduceToNat, reduceCtorEq, decide_true, decide_false, outA, encI]
        try rfl
end Gv
