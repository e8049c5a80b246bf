/-
  Part 7 of the proof: what the machine does and what the functions answer.
  Conditions: those that each lemma names.
-/
import Derived.Shelf.SlIter.Sorted
import Derived.Shelf.SortM.Plain
import Derived.Shelf.SortM.SortNone
import Derived.Shelf.SlicesG.CompactS
import Derived.Test.YtfcbldapbbhliaaGreatSGzGF
set_option linter.unusedSimpArgs false
set_option linter.unusedVariables false

/-
  May a grammar be: what the program's own functions answer, but for names that stand twice.
  Conditions: lists that are no longer than an int says, numbers that are ints.
-/
set_option linter.unusedSimpArgs false
set_option maxRecDepth 100000
namespace Gv
open Go Go.Proofs

theorem pc_cnamed (s : ByteArray) : PCall Tryz.prog 101 [gs s] (gb (namedB (bts s))) := by
  refine PCall.val (gs_tree s) fun H => ?_
  refine MCall.of mixed S_cfg_named_ok ?_
  repeat' (first | (refine GoB.dec (fun _ => ?_) (fun _ => ?_)) | (refine GoB.eq (fun _ => ?_) (fun _ => ?_)) | (refine GoB.ne (fun _ => ?_) (fun _ => ?_)) | (refine GoB.split (fun _ => ?_) (fun _ => ?_)) | (refine CallG.pure (pc_NameL s) (by kernel_rfl) ?_) | (refine CallG.pure (pc_lexLit s) (by kernel_rfl) ?_) | (simp (disch := omega) only [↓wr, ↓reduceIte, wq, eq_self, ne_eq, implies_true, oneV, intOp, goI, splice, sBuild, fillE, nilB, isNil, Nat.reduceEqDiff, Nat.reduceAdd, Nat.reduceLT, Nat.reduceLeDiff, Int.reduceNeg, Int.reduceToNat, reduceCtorEq, decide_true, decide_false, S_cfg_named]))
  all_goals simp [namedB, *]

theorem pc_cRight1 (s : ByteArray) : PCall Tryz.prog 74 [gs s] (gb (!nameB (bts s))) := by
  refine PCall.val (gs_tree s) fun H => ?_
  refine MCall.of mixed S_cfg_Right_1_ok ?_
  repeat' (first | (refine GoB.dec (fun _ => ?_) (fun _ => ?_)) | (refine GoB.eq (fun _ => ?_) (fun _ => ?_)) | (refine GoB.ne (fun _ => ?_) (fun _ => ?_)) | (refine GoB.split (fun _ => ?_) (fun _ => ?_)) | (refine CallG.pure (pc_NameL s) (by kernel_rfl) ?_) | (simp (disch := omega) only [↓wr, ↓reduceIte, wq, eq_self, ne_eq, implies_true, oneV, intOp, goI, splice, sBuild, fillE, nilB, isNil, Nat.reduceEqDiff, Nat.reduceAdd, Nat.reduceLT, Nat.reduceLeDiff, Int.reduceNeg, Int.reduceToNat, reduceCtorEq, decide_true, decide_false, S_cfg_Right_1]))

def B_cfg_levels_0 : SC :=
  .seq (.region false [⟨none, [((some 12), .op (.arith .lss (.tmp 11) (.tmp 10)))]⟩]) <|
  .seq (.cond (.tmp 12) (.skip) (.exit 0)) <|
  .seq (.block 1 (.seq (.region false [⟨none, [((some 13), .op (.idx 3 (.tmp 9) (.tmp 11))), ((some 14), .op (.load (some 3) (.tmp 13))), ((some 6), .op (.alloc [(.val (.string ⟨#[]⟩)), (.val (.int .i64 0)), (.val (.int .i64 0))])), (none, .op (.store 3 (.tmp 6) (.tmp 14)))]⟩]) <|
  .seq (.seq (.region false [⟨none, [((some 15), .op (.addr 1 (.tmp 6))), ((some 16), .op (.load none (.tmp 15))), ((some 17), .op (.arith .eql (.tmp 16) (.val (.val (.int .i64 0)))))]⟩]) <|
  .cond (.tmp 17) (.exit 1) (.skip)) <|
  .seq (.seq (.region false [⟨none, [((some 18), .op (.mov (.tmp 3))), ((some 19), .op (.addr 1 (.tmp 6))), ((some 20), .op (.load none (.tmp 19))), ((some 21), .op (.old (.lookup 64 (.tmp 18) (.tmp 20) false) 3)), ((some 7), .op (.mov (.tmp 21)))]⟩]) <|
  .seq (.region false [⟨none, [((some 22), .op (.mov (.tmp 7))), ((some 23), .op (.arith .neq (.tmp 22) (.val (.val (.int .i64 0))))), ((some 24), .op (.mov (.tmp 23)))]⟩, ⟨(some (24, true)), [((some 25), .op (.mov (.tmp 7))), ((some 26), .op (.addr 2 (.tmp 6))), ((some 27), .op (.load none (.tmp 26))), ((some 28), .op (.arith .neq (.tmp 25) (.tmp 27)))]⟩, ⟨none, [((some 29), .op (.pick (.tmp 24) (.tmp 28) (.val (.val (.bool false)))))]⟩]) <|
  .cond (.tmp 29) (.seq (.region false [⟨none, [((some 2), .op (.mov (.val (.val (.bool false)))))]⟩]) <|
  .ret) (.skip)) <|
  .seq (.region false [⟨none, [((some 30), .op (.mov (.tmp 3))), ((some 31), .op (.addr 1 (.tmp 6))), ((some 32), .op (.load none (.tmp 31))), ((some 33), .op (.addr 2 (.tmp 6))), ((some 34), .op (.load none (.tmp 33))), (none, .op (.old (.mapUpdate 64 (.tmp 30) (.tmp 32) (.tmp 34)) 0))]⟩]) <|
  .region false [⟨none, [((some 35), .op (.mov (.tmp 4))), ((some 36), .op (.addr 1 (.tmp 6))), ((some 37), .op (.load none (.tmp 36))), ((some 38), .op (.mm true (.tmp 35) (.tmp 37))), ((some 4), .op (.mov (.tmp 38)))]⟩])) <|
  .region false [⟨none, [((some 39), .op (.arith .add (.tmp 11) (.val (.val (.int .i64 1))))), ((some 11), .op (.mov (.tmp 39)))]⟩]
def S_cfg_levels : SF := ⟨.seq (.region false [⟨none, [((some 2), .op (.mov (.val (.val (.bool false)))))]⟩]) <|
  .seq (.region false [⟨none, [((some 8), .op (.mkmap)), ((some 3), .op (.mov (.tmp 8)))]⟩]) <|
  .seq (.region false [⟨none, [((some 4), .op (.mov (.val (.val (.int .i64 0)))))]⟩]) <|
  .seq (.seq (.region false [⟨none, [((some 9), .op (.mov (.tmp 0))), ((some 10), .op (.len (.tmp 9))), ((some 11), .op (.mov (.val (.val (.int .i64 0)))))]⟩]) <|
  .block 0 (.loop B_cfg_levels_0)) <|
  .seq (.region false [⟨none, [((some 40), .op (.mov (.tmp 3))), ((some 41), .op (.old (.call { callee := .builtin .len, args := #[(.tmp 40)], argTypes := #[64] }) 3)), ((some 42), .op (.mov (.tmp 4))), ((some 43), .op (.arith .eql (.tmp 41) (.tmp 42))), ((some 2), .op (.mov (.tmp 43)))]⟩]) <|
  .ret,
  [.tmp 2], 44⟩
theorem S_cfg_levels_ok : compF Tryz.prog 102 [] = some S_cfg_levels := by kernel_rfl

def B_cfg_terms_0 : SC :=
  .seq (.region false [⟨none, [((some 8), .op (.arith .lss (.tmp 7) (.tmp 6)))]⟩]) <|
  .seq (.cond (.tmp 8) (.skip) (.exit 0)) <|
  .seq (.block 1 (.seq (.region false [⟨none, [((some 9), .op (.idx 3 (.tmp 5) (.tmp 7))), ((some 10), .op (.load (some 3) (.tmp 9))), ((some 4), .op (.alloc [(.val (.string ⟨#[]⟩)), (.val (.int .i64 0)), (.val (.int .i64 0))])), (none, .op (.store 3 (.tmp 4) (.tmp 10)))]⟩]) <|
  .seq (.region false [⟨none, [((some 11), .op (.addr 0 (.tmp 4))), ((some 12), .op (.load none (.tmp 11))), ((some 13), .call (.val (.fn 101 [] [])) [(.tmp 12)]), ((some 14), .op (.not (.tmp 13))), ((some 15), .op (.mov (.tmp 14)))]⟩, ⟨(some (15, false)), [((some 16), .op (.addr 1 (.tmp 4))), ((some 17), .op (.load none (.tmp 16))), ((some 18), .call (.val (.fn 71 [] [])) [(.tmp 17), (.val (.val (.int .i64 0))), (.val (.val (.int .i64 24)))]), ((some 19), .op (.not (.tmp 18)))]⟩, ⟨none, [((some 20), .op (.pick (.tmp 15) (.val (.val (.bool true))) (.tmp 19))), ((some 21), .op (.mov (.tmp 20)))]⟩, ⟨(some (21, false)), [((some 22), .op (.addr 2 (.tmp 4))), ((some 23), .op (.load none (.tmp 22))), ((some 24), .call (.val (.fn 71 [] [])) [(.tmp 23), (.val (.val (.int .i64 0))), (.val (.val (.int .i64 3)))]), ((some 25), .op (.not (.tmp 24)))]⟩, ⟨none, [((some 26), .op (.pick (.tmp 21) (.val (.val (.bool true))) (.tmp 25))), ((some 27), .op (.mov (.tmp 26)))]⟩, ⟨(some (27, false)), [((some 28), .op (.addr 1 (.tmp 4))), ((some 29), .op (.load none (.tmp 28))), ((some 30), .op (.arith .eql (.tmp 29) (.val (.val (.int .i64 0))))), ((some 31), .op (.addr 2 (.tmp 4))), ((some 32), .op (.load none (.tmp 31))), ((some 33), .op (.arith .eql (.tmp 32) (.val (.val (.int .i64 0))))), ((some 34), .op (.beq false (.tmp 30) (.tmp 33)))]⟩, ⟨none, [((some 35), .op (.pick (.tmp 27) (.val (.val (.bool true))) (.tmp 34)))]⟩]) <|
  .cond (.tmp 35) (.seq (.region false [⟨none, [((some 2), .op (.mov (.val (.val (.bool false)))))]⟩]) <|
  .ret) (.skip))) <|
  .region false [⟨none, [((some 36), .op (.arith .add (.tmp 7) (.val (.val (.int .i64 1))))), ((some 7), .op (.mov (.tmp 36)))]⟩]
def S_cfg_terms : SF := ⟨.seq (.region false [⟨none, [((some 2), .op (.mov (.val (.val (.bool false)))))]⟩]) <|
  .seq (.seq (.region false [⟨none, [((some 5), .op (.mov (.tmp 0))), ((some 6), .op (.len (.tmp 5))), ((some 7), .op (.mov (.val (.val (.int .i64 0)))))]⟩]) <|
  .block 0 (.loop B_cfg_terms_0)) <|
  .seq (.region false [⟨none, [((some 37), .op (.mov (.tmp 0))), ((some 38), .op (.len (.tmp 37))), ((some 39), .op (.arith .leq (.tmp 38) (.val (.val (.int .i64 24))))), ((some 40), .op (.mov (.tmp 39)))]⟩, ⟨(some (40, true)), [((some 41), .op (.mov (.tmp 0))), ((some 42), .call (.val (.fn 102 [] [])) [(.tmp 41)])]⟩, ⟨none, [((some 43), .op (.pick (.tmp 40) (.tmp 42) (.val (.val (.bool false))))), ((some 2), .op (.mov (.tmp 43)))]⟩]) <|
  .ret,
  [.tmp 2], 44⟩
theorem S_cfg_terms_ok : compF Tryz.prog 70 [] = some S_cfg_terms := by kernel_rfl

def B_cfg_Right_0 : SC :=
  .seq (.region false [⟨none, [((some 16), .op (.arith .lss (.tmp 15) (.tmp 14)))]⟩]) <|
  .seq (.cond (.tmp 16) (.skip) (.exit 0)) <|
  .seq (.block 1 (.seq (.region false [⟨none, [((some 17), .op (.idx 3 (.tmp 13) (.tmp 15))), ((some 18), .op (.load (some 3) (.tmp 17))), ((some 5), .op (.alloc [(.val (.string ⟨#[]⟩)), (.val (.int .i64 0)), (.val (.int .i64 0))])), (none, .op (.store 3 (.tmp 5) (.tmp 18)))]⟩]) <|
  .region false [⟨none, [((some 19), .op (.mov (.tmp 3))), ((some 20), .op (.addr 0 (.tmp 5))), ((some 21), .op (.load none (.tmp 20))), ((some 22), .op (.bslice 1 1 [(.val (.string ⟨#[]⟩))] [(0, (.tmp 21))])), ((some 23), .op (.app 1 16 (.tmp 19) (.tmp 22))), ((some 3), .op (.mov (.tmp 23)))]⟩])) <|
  .region false [⟨none, [((some 24), .op (.arith .add (.tmp 15) (.val (.val (.int .i64 1))))), ((some 15), .op (.mov (.tmp 24)))]⟩]
def B_cfg_Right_1 : SC :=
  .seq (.region false [⟨none, [((some 65), .op (.arith .lss (.tmp 64) (.tmp 63)))]⟩]) <|
  .seq (.cond (.tmp 65) (.skip) (.exit 2)) <|
  .seq (.block 3 (.seq (.region false [⟨none, [((some 66), .op (.idx 3 (.tmp 62) (.tmp 64))), ((some 67), .op (.load (some 3) (.tmp 66))), ((some 8), .op (.alloc [(.val (.int .i64 0)), (.emp 1), (.val (.int .i64 0))])), (none, .op (.store 3 (.tmp 8) (.tmp 67)))]⟩]) <|
  .seq (.seq (.region false [⟨none, [((some 68), .op (.addr 0 (.tmp 8))), ((some 69), .op (.load none (.tmp 68))), ((some 70), .op (.mov (.tmp 6))), ((some 71), .call (.val (.fn 71 [] [])) [(.tmp 69), (.val (.val (.int .i64 0))), (.tmp 70)]), ((some 72), .op (.not (.tmp 71))), ((some 73), .op (.mov (.tmp 72)))]⟩, ⟨(some (73, false)), [((some 74), .op (.load (some 4) (.tmp 1))), ((some 75), .op (.load (some 3) (.tmp 8))), ((some 76), .call (.val (.fn 76 [] [])) [(.tmp 74), (.tmp 75)]), ((some 77), .op (.not (.tmp 76)))]⟩, ⟨none, [((some 78), .op (.pick (.tmp 73) (.val (.val (.bool true))) (.tmp 77)))]⟩]) <|
  .cond (.tmp 78) (.seq (.region false [⟨none, [((some 2), .op (.mov (.val (.val (.bool false)))))]⟩]) <|
  .ret) (.skip)) <|
  .region false [⟨none, [((some 79), .op (.mov (.tmp 6))), ((some 80), .op (.addr 0 (.tmp 8))), ((some 81), .op (.load none (.tmp 80))), ((some 82), .op (.arith .add (.tmp 81) (.val (.val (.int .i64 1))))), ((some 83), .op (.mm true (.tmp 79) (.tmp 82))), ((some 6), .op (.mov (.tmp 83)))]⟩])) <|
  .region false [⟨none, [((some 84), .op (.arith .add (.tmp 64) (.val (.val (.int .i64 1))))), ((some 64), .op (.mov (.tmp 84)))]⟩]
def S_cfg_Right : SF := ⟨.seq (.region false [⟨none, [((some 1), .op (.frz (.tmp 0))), ((some 2), .op (.mov (.val (.val (.bool false)))))]⟩]) <|
  .seq (.region false [⟨none, [((some 9), .op (.addr 1 (.tmp 1))), ((some 10), .op (.load none (.tmp 9))), ((some 11), .call (.val (.fn 69 [] [])) [(.tmp 10)]), ((some 3), .op (.mov (.tmp 11)))]⟩]) <|
  .seq (.seq (.region false [⟨none, [((some 12), .op (.addr 0 (.tmp 1))), ((some 13), .op (.load none (.tmp 12))), ((some 14), .op (.len (.tmp 13))), ((some 15), .op (.mov (.val (.val (.int .i64 0)))))]⟩]) <|
  .block 0 (.loop B_cfg_Right_0)) <|
  .seq (.seq (.region false [⟨none, [((some 25), .op (.addr 0 (.tmp 1))), ((some 26), .op (.load none (.tmp 25))), ((some 27), .call (.val (.fn 70 [] [])) [(.tmp 26)]), ((some 28), .op (.not (.tmp 27))), ((some 29), .op (.mov (.tmp 28)))]⟩, ⟨(some (29, false)), [((some 30), .op (.addr 1 (.tmp 1))), ((some 31), .op (.load none (.tmp 30))), ((some 32), .op (.len (.tmp 31))), ((some 33), .call (.val (.fn 71 [] [])) [(.tmp 32), (.val (.val (.int .i64 1))), (.val (.val (.int .i64 16)))]), ((some 34), .op (.not (.tmp 33)))]⟩, ⟨none, [((some 35), .op (.pick (.tmp 29) (.val (.val (.bool true))) (.tmp 34))), ((some 36), .op (.mov (.tmp 35)))]⟩, ⟨(some (36, false)), [((some 37), .op (.addr 2 (.tmp 1))), ((some 38), .op (.load none (.tmp 37))), ((some 39), .op (.len (.tmp 38))), ((some 40), .call (.val (.fn 71 [] [])) [(.tmp 39), (.val (.val (.int .i64 1))), (.val (.val (.int .i64 40)))]), ((some 41), .op (.not (.tmp 40)))]⟩, ⟨none, [((some 42), .op (.pick (.tmp 36) (.val (.val (.bool true))) (.tmp 41))), ((some 43), .op (.mov (.tmp 42)))]⟩, ⟨(some (43, false)), [((some 44), .op (.mov (.tmp 3))), ((some 45), .call (.val (.fn 72 [] [])) [(.tmp 44)]), ((some 46), .op (.not (.tmp 45)))]⟩, ⟨none, [((some 47), .op (.pick (.tmp 43) (.val (.val (.bool true))) (.tmp 46))), ((some 48), .op (.mov (.tmp 47)))]⟩, ⟨(some (48, false)), [((some 49), .op (.addr 3 (.tmp 1))), ((some 50), .op (.load none (.tmp 49))), ((some 51), .op (.addr 1 (.tmp 1))), ((some 52), .op (.load none (.tmp 51))), ((some 53), .op (.len (.tmp 52))), ((some 54), .op (.arith .sub (.tmp 53) (.val (.val (.int .i64 1))))), ((some 55), .call (.val (.fn 71 [] [])) [(.tmp 50), (.val (.val (.int .i64 0))), (.tmp 54)]), ((some 56), .op (.not (.tmp 55)))]⟩, ⟨none, [((some 57), .op (.pick (.tmp 48) (.val (.val (.bool true))) (.tmp 56)))]⟩]) <|
  .cond (.tmp 57) (.seq (.region false [⟨none, [((some 2), .op (.mov (.val (.val (.bool false)))))]⟩]) <|
  .ret) (.skip)) <|
  .seq (.seq (.region false [⟨none, [((some 58), .op (.addr 1 (.tmp 1))), ((some 59), .op (.load none (.tmp 58))), ((some 60), .call (.val (.fn 73 [] [])) [(.tmp 59), (.val (.fn 74 [] []))])]⟩]) <|
  .cond (.tmp 60) (.seq (.region false [⟨none, [((some 2), .op (.mov (.val (.val (.bool false)))))]⟩]) <|
  .ret) (.skip)) <|
  .seq (.region false [⟨none, [((some 6), .op (.mov (.val (.val (.int .i64 0)))))]⟩]) <|
  .seq (.seq (.region false [⟨none, [((some 61), .op (.addr 2 (.tmp 1))), ((some 62), .op (.load none (.tmp 61))), ((some 63), .op (.len (.tmp 62))), ((some 64), .op (.mov (.val (.val (.int .i64 0)))))]⟩]) <|
  .block 2 (.loop B_cfg_Right_1)) <|
  .seq (.region false [⟨none, [((some 85), .op (.mov (.tmp 6))), ((some 86), .op (.addr 1 (.tmp 1))), ((some 87), .op (.load none (.tmp 86))), ((some 88), .op (.len (.tmp 87))), ((some 89), .op (.arith .eql (.tmp 85) (.tmp 88))), ((some 2), .op (.mov (.tmp 89)))]⟩]) <|
  .ret,
  [.tmp 2], 90⟩
theorem S_cfg_Right_ok : compF Tryz.prog 41 [1] = some S_cfg_Right := by kernel_rfl

def encTs (l : List Term) : V := .fro (l.map encT)
theorem encTs_tree (l : List Term) : ∀ v ∈ [encTs l], Tree v := by intro v hv; simp at hv; subst hv; exact tree_fro _ _ fun x _ => encT_tree x

/-- The ways of the levels met so far, the greatest level: none: a level has two ways. -/
def levS : List Term → List (Int × Int) → Int → Option (List (Int × Int) × Int)
  | [], a, top => some (a, top)
  | t :: r, a, top => if t.level = 0 then levS r a top else
      if (pget a t.level).getD 0 ≠ 0 ∧ (pget a t.level).getD 0 ≠ t.assoc then none else levS r (pput t.level t.assoc a) (if t.level > top then t.level else top)
def levelsB (l : List Term) : Bool := match levS l [] 0 with
  | some (a, top) => (a.length : Int) == top
  | none => false

set_option maxHeartbeats 1000000 in
theorem pc_clevels (l : List Term) (hl : Short l) : PCall Tryz.prog 102 [encTs l] (gb (levelsB l)) := by
  refine PCall.val (encTs_tree l) fun H => ?_
  refine MCall.of mixed S_cfg_levels_ok ?_
  unfold Short at hl
  simp (disch := omega) only [↓wr, ↓reduceIte, wq, eq_self, ne_eq, implies_true, oneV, intOp, goI, splice, sBuild, fillE, nilB, isNil, Nat.reduceEqDiff, Nat.reduceAdd, Nat.reduceLT, Nat.reduceLeDiff, Int.reduceNeg, Int.reduceToNat, reduceCtorEq, decide_true, decide_false, S_cfg_levels, encTs]
  intro q hq
  try simp (disch := omega) only [↓wr, ↓reduceIte, wq, eq_self, ne_eq, implies_true, oneV, intOp, goI, splice, sBuild, fillE, nilB, isNil, Nat.reduceEqDiff, Nat.reduceAdd, Nat.reduceLT, Nat.reduceLeDiff, Int.reduceNeg, Int.reduceToNat, reduceCtorEq, decide_true, decide_false]
  refine LoopG.up l.length (fun i T H => (∃ a m c top, H q = .map (encM (Value.int .i64) m) c ∧ MRel gi a m ∧ T 4 = gi top ∧ levS (l.drop i) a top = levS l [] 0) ∧ T 0 = encTs l ∧ T 3 = .mp q ∧ T 9 = encTs l ∧ T 10 = gi l.length ∧ T 11 = gi i) ?_ ?_
  · refine ⟨⟨[], [], 0, 0, ?_, trivial, rfl, rfl⟩, rfl, rfl, rfl, rfl, rfl⟩
    simp [View.set, encM]
  rintro i k T H hk ⟨⟨a, m, c, top, hq, hm, h4, hi⟩, h0, h3, h9, h10, h11⟩
  simp (disch := omega) only [↓wr, ↓reduceIte, wq, eq_self, ne_eq, implies_true, oneV, intOp, goI, splice, sBuild, fillE, nilB, isNil, Nat.reduceEqDiff, Nat.reduceAdd, Nat.reduceLT, Nat.reduceLeDiff, Int.reduceNeg, Int.reduceToNat, reduceCtorEq, decide_true, decide_false, B_cfg_levels_0, h0, h3, h4, h9, h10, h11, encTs]
  refine GoB.dec (fun hc => ?_) (fun hc => ?_)
  · have hg : l[i]? = some (l[i]'(by omega)) := List.getElem?_eq_getElem (by omega)
    rw [drop_at (show i < l.length by omega)] at hi
    generalize l[i]'(by omega) = t at hg hi
    simp only [levS] at hi
    simp (disch := omega) only [↓wr, ↓reduceIte, wq, eq_self, ne_eq, implies_true, oneV, intOp, goI, splice, sBuild, fillE, nilB, isNil, Nat.reduceEqDiff, Nat.reduceAdd, Nat.reduceLT, Nat.reduceLeDiff, Int.reduceNeg, Int.reduceToNat, reduceCtorEq, decide_true, decide_false, h0, h3, h4, h9, h10, h11, encTs, encT, List.getElem?_map, hg]
    intro b hb
    have hbq : b ≠ q := by rintro rfl; rw [hq] at hb; simp at hb
    try simp (disch := omega) only [↓wr, ↓reduceIte, wq, eq_self, ne_eq, implies_true, oneV, intOp, goI, splice, sBuild, fillE, nilB, isNil, Nat.reduceEqDiff, Nat.reduceAdd, Nat.reduceLT, Nat.reduceLeDiff, Int.reduceNeg, Int.reduceToNat, reduceCtorEq, decide_true, decide_false]
    refine GoB.eq (fun hz => ?_) (fun hz => ?_)
    · rw [if_pos hz] at hi
      simp (disch := omega) only [↓wr, ↓reduceIte, wq, eq_self, ne_eq, implies_true, oneV, intOp, goI, splice, sBuild, fillE, nilB, isNil, Nat.reduceEqDiff, Nat.reduceAdd, Nat.reduceLT, Nat.reduceLeDiff, Int.reduceNeg, Int.reduceToNat, reduceCtorEq, decide_true, decide_false, h0, h3, h4, h9, h10, h11]
      refine up_next hk (by omega) ⟨⟨a, m, c, top, ?_, hm, h4, hi⟩, h0, h3, h9, h10, rfl⟩
      simp [View.set, hbq.symm, hq]
    · rw [if_neg hz] at hi
      simp (disch := omega) only [↓wr, ↓reduceIte, wq, eq_self, ne_eq, implies_true, oneV, intOp, goI, splice, sBuild, fillE, nilB, isNil, Nat.reduceEqDiff, Nat.reduceAdd, Nat.reduceLT, Nat.reduceLeDiff, Int.reduceNeg, Int.reduceToNat, reduceCtorEq, decide_true, decide_false, h0, h3, h4, h9, h10, h11]
      refine look1 (kt := 3) (et := 3) (z := gi 0) (by kernel_rfl) (by kernel_rfl) (keyInt .i64 Tryz.underlying3) (id := q) (c := c) (m := m) (k := t.level) (by simp (disch := omega) only [↓wr, ↓reduceIte, wq, eq_self, ne_eq, implies_true, oneV, intOp, goI, splice, sBuild, fillE, nilB, isNil, Nat.reduceEqDiff, Nat.reduceAdd, Nat.reduceLT, Nat.reduceLeDiff, Int.reduceNeg, Int.reduceToNat, reduceCtorEq, decide_true, decide_false, h3]) (by simp (disch := omega) only [↓wr, ↓reduceIte, wq, eq_self, ne_eq, implies_true, oneV, intOp, goI, splice, sBuild, fillE, nilB, isNil, Nat.reduceEqDiff, Nat.reduceAdd, Nat.reduceLT, Nat.reduceLeDiff, Int.reduceNeg, Int.reduceToNat, reduceCtorEq, decide_true, decide_false, h3]) (by simp [View.set, hbq.symm, hq]) ?_
      have hgt : (getM m t.level).getD (gi 0) = gi ((pget a t.level).getD 0) := by
        rw [hm.get]; cases pget a t.level <;> rfl
      have hput : ∀ (H2 : View) (c' : Nat) (T2 : Env), (¬ ((pget a t.level).getD 0 ≠ 0 ∧ (pget a t.level).getD 0 ≠ t.assoc)) →
          H2 q = .map (encM (Value.int .i64) (putM t.level (gi t.assoc) c m)) c' → T2 0 = encTs l → T2 3 = .mp q → T2 4 = gi (if t.level > top then t.level else top) → T2 9 = encTs l → T2 10 = gi l.length → T2 11 = gi ((i : Int) + 1) →
          ∃ k', k' < k ∧ UpN l.length k' (fun i T H => (∃ a m c top, H q = .map (encM (Value.int .i64) m) c ∧ MRel gi a m ∧ T 4 = gi top ∧ levS (l.drop i) a top = levS l [] 0) ∧ T 0 = encTs l ∧ T 3 = .mp q ∧ T 9 = encTs l ∧ T 10 = gi l.length ∧ T 11 = gi i) T2 H2 := by
        intro H2 c' T2 hn g1 g2 g3 g4 g5 g6 g7
        rw [if_neg hn] at hi
        exact up_next hk (by omega) ⟨⟨_, _, c', _, g1, hm.put t.level t.assoc c, g4, hi⟩, g2, g3, g5, g6, by rw [g7]; rfl⟩
      repeat' (first | (refine GoB.dec (fun _ => ?_) (fun _ => ?_)) | (refine GoB.eq (fun _ => ?_) (fun _ => ?_)) | (refine GoB.ne (fun _ => ?_) (fun _ => ?_)) | (refine GoB.split (fun _ => ?_) (fun _ => ?_)) | (simp (disch := omega) only [↓wr, ↓reduceIte, wq, eq_self, ne_eq, implies_true, oneV, intOp, goI, splice, sBuild, fillE, nilB, isNil, Nat.reduceEqDiff, Nat.reduceAdd, Nat.reduceLT, Nat.reduceLeDiff, Int.reduceNeg, Int.reduceToNat, reduceCtorEq, decide_true, decide_false, h0, h3, h4, h9, h10, h11, hgt]))
      · rename_i n1 n2
        rw [if_pos ⟨n1, n2⟩] at hi
        simp only [levelsB, ← hi]
      · rename_i n1 n2
        refine mapPut (kt := 3) (et := 3) (by kernel_rfl) (keyInt .i64 Tryz.underlying3) (id := q) (c := c) (m := m) (k := t.level) (v := gi t.assoc) (by simp (disch := omega) only [↓wr, ↓reduceIte, wq, eq_self, ne_eq, implies_true, oneV, intOp, goI, splice, sBuild, fillE, nilB, isNil, Nat.reduceEqDiff, Nat.reduceAdd, Nat.reduceLT, Nat.reduceLeDiff, Int.reduceNeg, Int.reduceToNat, reduceCtorEq, decide_true, decide_false, h3]) (by simp (disch := omega) only [↓wr, ↓reduceIte, wq, eq_self, ne_eq, implies_true, oneV, intOp, goI, splice, sBuild, fillE, nilB, isNil, Nat.reduceEqDiff, Nat.reduceAdd, Nat.reduceLT, Nat.reduceLeDiff, Int.reduceNeg, Int.reduceToNat, reduceCtorEq, decide_true, decide_false, h3]) (by simp (disch := omega) only [↓wr, ↓reduceIte, wq, eq_self, ne_eq, implies_true, oneV, intOp, goI, splice, sBuild, fillE, nilB, isNil, Nat.reduceEqDiff, Nat.reduceAdd, Nat.reduceLT, Nat.reduceLeDiff, Int.reduceNeg, Int.reduceToNat, reduceCtorEq, decide_true, decide_false, h3]) (by simp [View.set, hbq.symm, hq]) ?_
        intro c'
        simp (disch := omega) only [↓wr, ↓reduceIte, wq, eq_self, ne_eq, implies_true, oneV, intOp, goI, splice, sBuild, fillE, nilB, isNil, Nat.reduceEqDiff, Nat.reduceAdd, Nat.reduceLT, Nat.reduceLeDiff, Int.reduceNeg, Int.reduceToNat, reduceCtorEq, decide_true, decide_false, h0, h3, h4, h9, h10, h11, hbq]
        exact hput _ c' _ (fun e => e.2 n2) (by simp [View.set]) h0 h3 rfl h9 h10 rfl
      · rename_i n1
        refine mapPut (kt := 3) (et := 3) (by kernel_rfl) (keyInt .i64 Tryz.underlying3) (id := q) (c := c) (m := m) (k := t.level) (v := gi t.assoc) (by simp (disch := omega) only [↓wr, ↓reduceIte, wq, eq_self, ne_eq, implies_true, oneV, intOp, goI, splice, sBuild, fillE, nilB, isNil, Nat.reduceEqDiff, Nat.reduceAdd, Nat.reduceLT, Nat.reduceLeDiff, Int.reduceNeg, Int.reduceToNat, reduceCtorEq, decide_true, decide_false, h3]) (by simp (disch := omega) only [↓wr, ↓reduceIte, wq, eq_self, ne_eq, implies_true, oneV, intOp, goI, splice, sBuild, fillE, nilB, isNil, Nat.reduceEqDiff, Nat.reduceAdd, Nat.reduceLT, Nat.reduceLeDiff, Int.reduceNeg, Int.reduceToNat, reduceCtorEq, decide_true, decide_false, h3]) (by simp (disch := omega) only [↓wr, ↓reduceIte, wq, eq_self, ne_eq, implies_true, oneV, intOp, goI, splice, sBuild, fillE, nilB, isNil, Nat.reduceEqDiff, Nat.reduceAdd, Nat.reduceLT, Nat.reduceLeDiff, Int.reduceNeg, Int.reduceToNat, reduceCtorEq, decide_true, decide_false, h3]) (by simp [View.set, hbq.symm, hq]) ?_
        intro c'
        simp (disch := omega) only [↓wr, ↓reduceIte, wq, eq_self, ne_eq, implies_true, oneV, intOp, goI, splice, sBuild, fillE, nilB, isNil, Nat.reduceEqDiff, Nat.reduceAdd, Nat.reduceLT, Nat.reduceLeDiff, Int.reduceNeg, Int.reduceToNat, reduceCtorEq, decide_true, decide_false, h0, h3, h4, h9, h10, h11, hbq]
        exact hput _ c' _ (fun e => e.1 n1) (by simp [View.set]) h0 h3 rfl h9 h10 rfl
  · rw [List.drop_eq_nil_of_le (by omega)] at hi
    simp only [levS] at hi
    simp (disch := omega) only [↓wr, ↓reduceIte, wq, eq_self, ne_eq, implies_true, oneV, intOp, goI, splice, sBuild, fillE, nilB, isNil, Nat.reduceEqDiff, Nat.reduceAdd, Nat.reduceLT, Nat.reduceLeDiff, Int.reduceNeg, Int.reduceToNat, reduceCtorEq, decide_true, decide_false, h0, h3, h4, h9, h10, h11]
    refine mapLen (kt := 3) (et := 3) (by kernel_rfl) (id := q) (c := c) (m := m) (by simp (disch := omega) only [↓wr, ↓reduceIte, wq, eq_self, ne_eq, implies_true, oneV, intOp, goI, splice, sBuild, fillE, nilB, isNil, Nat.reduceEqDiff, Nat.reduceAdd, Nat.reduceLT, Nat.reduceLeDiff, Int.reduceNeg, Int.reduceToNat, reduceCtorEq, decide_true, decide_false, h3]) hq ?_
    simp (disch := omega) only [↓wr, ↓reduceIte, wq, eq_self, ne_eq, implies_true, oneV, intOp, goI, splice, sBuild, fillE, nilB, isNil, Nat.reduceEqDiff, Nat.reduceAdd, Nat.reduceLT, Nat.reduceLeDiff, Int.reduceNeg, Int.reduceToNat, reduceCtorEq, decide_true, decide_false, h0, h3, h4, h9, h10, h11, hm.len]
    simp only [levelsB, ← hi]

def termC (t : Term) : Bool := namedB (bts t.name) && decide (0 ≤ t.level) && decide (t.level ≤ 24) && decide (0 ≤ t.assoc) && decide (t.assoc ≤ 3) && ((t.level == 0) == (t.assoc == 0))
def termsC (l : List Term) : Bool := l.all termC && decide (l.length ≤ 24) && levelsB l

set_option maxHeartbeats 1000000 in
theorem pc_cterms (l : List Term) (hl : Short l) : PCall Tryz.prog 70 [encTs l] (gb (termsC l)) := by
  refine PCall.val (encTs_tree l) fun H => ?_
  refine MCall.of mixed S_cfg_terms_ok ?_
  have hl2 := hl
  unfold Short at hl
  simp (disch := omega) only [↓wr, ↓reduceIte, wq, eq_self, ne_eq, implies_true, oneV, intOp, goI, splice, sBuild, fillE, nilB, isNil, Nat.reduceEqDiff, Nat.reduceAdd, Nat.reduceLT, Nat.reduceLeDiff, Int.reduceNeg, Int.reduceToNat, reduceCtorEq, decide_true, decide_false, S_cfg_terms, encTs]
  refine LoopG.up l.length (fun i T H => (l.drop i).all termC = l.all termC ∧ T 0 = encTs l ∧ T 5 = encTs l ∧ T 6 = gi l.length ∧ T 7 = gi i) ?_ ?_
  · exact ⟨rfl, rfl, rfl, rfl, rfl⟩
  rintro i k T H hk ⟨hi, h0, h5, h6, h7⟩
  simp (disch := omega) only [↓wr, ↓reduceIte, wq, eq_self, ne_eq, implies_true, oneV, intOp, goI, splice, sBuild, fillE, nilB, isNil, Nat.reduceEqDiff, Nat.reduceAdd, Nat.reduceLT, Nat.reduceLeDiff, Int.reduceNeg, Int.reduceToNat, reduceCtorEq, decide_true, decide_false, B_cfg_terms_0, h0, h5, h6, h7, encTs]
  refine GoB.dec (fun hc => ?_) (fun hc => ?_)
  · have hg : l[i]? = some (l[i]'(by omega)) := List.getElem?_eq_getElem (by omega)
    rw [drop_at (show i < l.length by omega)] at hi
    generalize l[i]'(by omega) = t at hg hi
    rw [List.all_cons] at hi
    have hbad : termC t = false → gb false = gb (termsC l) := fun e => by rw [e, Bool.false_and] at hi; simp [termsC, ← hi]
    simp (disch := omega) only [↓wr, ↓reduceIte, wq, eq_self, ne_eq, implies_true, oneV, intOp, goI, splice, sBuild, fillE, nilB, isNil, Nat.reduceEqDiff, Nat.reduceAdd, Nat.reduceLT, Nat.reduceLeDiff, Int.reduceNeg, Int.reduceToNat, reduceCtorEq, decide_true, decide_false, h0, h5, h6, h7, encTs, encT, List.getElem?_map, hg]
    intro b hb
    repeat' (first | (refine GoB.dec (fun _ => ?_) (fun _ => ?_)) | (refine GoB.eq (fun _ => ?_) (fun _ => ?_)) | (refine GoB.ne (fun _ => ?_) (fun _ => ?_)) | (refine GoB.split (fun _ => ?_) (fun _ => ?_)) | (refine CallG.pure (pc_cnamed t.name) (by kernel_rfl) ?_) | (refine CallG.pure (pc_cwithin _ _ _) (by kernel_rfl) ?_) | (simp (disch := omega) only [↓wr, ↓reduceIte, wq, eq_self, ne_eq, implies_true, oneV, intOp, goI, splice, sBuild, fillE, nilB, isNil, Nat.reduceEqDiff, Nat.reduceAdd, Nat.reduceLT, Nat.reduceLeDiff, Int.reduceNeg, Int.reduceToNat, reduceCtorEq, decide_true, decide_false, h0, h5, h6, h7, encTs]))
    all_goals first
      | (refine hbad ?_; simp [termC, *]; done)
      | (refine hbad ?_; simp_all [termC]; done)
      | skip
    rename_i e1 e2 e3 e4
    refine up_next hk (by omega) ⟨?_, h0, h5, h6, rfl⟩
    have : termC t = true := by
      simp only [Bool.and_eq_true, decide_eq_true_eq] at e2 e3
      have e4' : ((t.level == 0) == (t.assoc == 0)) = true := by simpa [bne] using e4
      simp [termC, e1, e2.1, e2.2, e3.1, e3.2, e4']
    rw [this, Bool.true_and] at hi
    exact hi
  · rw [List.drop_eq_nil_of_le (by omega), List.all_nil] at hi
    simp (disch := omega) only [↓wr, ↓reduceIte, wq, eq_self, ne_eq, implies_true, oneV, intOp, goI, splice, sBuild, fillE, nilB, isNil, Nat.reduceEqDiff, Nat.reduceAdd, Nat.reduceLT, Nat.reduceLeDiff, Int.reduceNeg, Int.reduceToNat, reduceCtorEq, decide_true, decide_false, h0, h5, h6, h7, encTs]
    repeat' (first | (refine GoB.dec (fun _ => ?_) (fun _ => ?_)) | (refine GoB.eq (fun _ => ?_) (fun _ => ?_)) | (refine GoB.ne (fun _ => ?_) (fun _ => ?_)) | (refine GoB.split (fun _ => ?_) (fun _ => ?_)) | (refine CallG.pure (pc_clevels l hl2) (by kernel_rfl) ?_) | (simp (disch := omega) only [↓wr, ↓reduceIte, wq, eq_self, ne_eq, implies_true, oneV, intOp, goI, splice, sBuild, fillE, nilB, isNil, Nat.reduceEqDiff, Nat.reduceAdd, Nat.reduceLT, Nat.reduceLeDiff, Int.reduceNeg, Int.reduceToNat, reduceCtorEq, decide_true, decide_false, h0, h5, h6, h7, encTs]))
    · rename_i h
      simp [termsC, ← hi, show l.length ≤ 24 by omega]
    · rename_i h
      simp [termsC, ← hi, show ¬ l.length ≤ 24 by omega]
end Gv

/-
  A list of texts, sorted by the library: what comes back; whether each text stands once.
  Conditions: texts whose list takes no more memory than the reach.
-/
set_option linter.unusedSimpArgs false
set_option maxRecDepth 100000
namespace Gv
open Go Go.Proofs Go.Shelf Go.RowKit Go.Sort

attribute [local go_sem] Oper.semAt_some

def sortedL_ren : Ren where
  f := fun
    | 6 => 103
    | 8 => 126
    | 9 => 127
    | 11 => 144
    | 13 => 146
    | 12 => 145
    | 23 => 159
    | 24 => 160
    | 14 => 150
    | 15 => 151
    | 16 => 152
    | 17 => 153
    | 18 => 154
    | 19 => 155
    | 20 => 156
    | 21 => 157
    | 22 => 158
    | 25 => 161
    | 26 => 162
    | 27 => 163
    | 28 => 164
    | 29 => 165
    | 30 => 166
    | 31 => 167
    | n => n
  t := fun
    | 26 => 9
    | 28 => 129
    | 24 => 23
    | 0 => 0
    | 3 => 3
    | 37 => 133
    | 48 => 154
    | 50 => 157
    | 4 => 4
    | 40 => 179
    | 39 => 178
    | 45 => 65
    | 5 => 5
    | 9 => 9
    | 51 => 187
    | 55 => 191
    | 57 => 193
    | 58 => 194
    | 33 => 97
    | n => n
  g := fun n => n
theorem sortedL : Go.Proofs.SlLaysZ.n6 Tryz.prog sortedL_ren where
  mixed := by kernel_rfl
  f6 := ⟨Tryz.f103.name, by kernel_rfl, by kernel_rfl⟩
  f8 := ⟨Tryz.f126.name, by kernel_rfl, by kernel_rfl⟩
  f11 := ⟨Tryz.f144.name, by kernel_rfl, by kernel_rfl⟩
  t0 := Tryz.underlying0
  a0 := Tryz.isAgg0
  z0 := Tryz.sizeOf0
  v0 := Tryz.zeroValue0
  t24 := Tryz.underlying23
  a24 := Tryz.isAgg23
  z24 := Tryz.sizeOf23
  v24 := Tryz.zeroValue23
  t26 := Tryz.underlying9
  a26 := Tryz.isAgg9
  z26 := Tryz.sizeOf9
  v26 := Tryz.zeroValue9
  t28 := Tryz.underlying129
  a28 := Tryz.isAgg129
  z28 := Tryz.sizeOf129
  v28 := Tryz.zeroValue129
  i26 := by kernel_rfl
def sortL_ren : Ren where
  f := fun
    | 6 => 127
    | 8 => 146
    | 9 => 145
    | 19 => 159
    | 20 => 160
    | 21 => 150
    | 22 => 151
    | 23 => 152
    | 24 => 153
    | 25 => 154
    | 26 => 155
    | 27 => 156
    | 28 => 157
    | 29 => 158
    | 36 => 161
    | 31 => 162
    | 32 => 163
    | 37 => 164
    | 38 => 165
    | 39 => 166
    | 41 => 167
    | n => n
  t := fun
    | 27 => 23
    | 29 => 9
    | 3 => 3
    | 32 => 133
    | 26 => 23
    | 0 => 0
    | 44 => 154
    | 46 => 157
    | 4 => 4
    | 36 => 179
    | 35 => 178
    | 41 => 65
    | 5 => 5
    | 9 => 9
    | 53 => 187
    | 57 => 191
    | 63 => 193
    | 64 => 194
    | n => n
  g := fun n => n
theorem sortL : Go.Proofs.SlLaysM.n6 Tryz.prog sortL_ren where
  mixed := by kernel_rfl
  f6 := ⟨Tryz.f127.name, by kernel_rfl, by kernel_rfl⟩
  f8 := by kernel_rfl
  f9 := ⟨Tryz.f145.name, by kernel_rfl, by kernel_rfl⟩
  f19 := by kernel_rfl
  f20 := by kernel_rfl
  f21 := ⟨Tryz.f150.name, by kernel_rfl, by kernel_rfl⟩
  f22 := ⟨Tryz.f151.name, by kernel_rfl, by kernel_rfl⟩
  f23 := ⟨Tryz.f152.name, by kernel_rfl, by kernel_rfl⟩
  f24 := ⟨Tryz.f153.name, by kernel_rfl, by kernel_rfl⟩
  f25 := ⟨Tryz.f154.name, by kernel_rfl, by kernel_rfl⟩
  f26 := ⟨Tryz.f155.name, by kernel_rfl, by kernel_rfl⟩
  f27 := ⟨Tryz.f156.name, by kernel_rfl, by kernel_rfl⟩
  f28 := ⟨Tryz.f157.name, by kernel_rfl, by kernel_rfl⟩
  f29 := ⟨Tryz.f158.name, by kernel_rfl, by kernel_rfl⟩
  f31 := by kernel_rfl
  f32 := by kernel_rfl
  f36 := ⟨Tryz.f161.name, by kernel_rfl, by kernel_rfl⟩
  f37 := ⟨Tryz.f164.name, by kernel_rfl, by kernel_rfl⟩
  f38 := ⟨Tryz.f165.name, by kernel_rfl, by kernel_rfl⟩
  f39 := ⟨Tryz.f166.name, by kernel_rfl, by kernel_rfl⟩
  f41 := ⟨Tryz.f167.name, by kernel_rfl, by kernel_rfl⟩
  t0 := Tryz.underlying0
  a0 := Tryz.isAgg0
  z0 := Tryz.sizeOf0
  v0 := Tryz.zeroValue0
  t3 := Tryz.underlying3
  a3 := Tryz.isAgg3
  z3 := Tryz.sizeOf3
  v3 := Tryz.zeroValue3
  t4 := Tryz.underlying4
  a4 := Tryz.isAgg4
  z4 := Tryz.sizeOf4
  v4 := Tryz.zeroValue4
  t5 := Tryz.underlying5
  a5 := Tryz.isAgg5
  z5 := Tryz.sizeOf5
  v5 := Tryz.zeroValue5
  t9 := Tryz.underlying9
  a9 := Tryz.isAgg9
  z9 := Tryz.sizeOf9
  v9 := Tryz.zeroValue9
  t26 := Tryz.underlying23
  a26 := Tryz.isAgg23
  z26 := Tryz.sizeOf23
  v26 := Tryz.zeroValue23
  t27 := Tryz.underlying23
  a27 := Tryz.isAgg23
  z27 := Tryz.sizeOf23
  v27 := Tryz.zeroValue23
  t29 := Tryz.underlying9
  a29 := Tryz.isAgg9
  z29 := Tryz.sizeOf9
  v29 := Tryz.zeroValue9
  t32 := Tryz.underlying133
  a32 := Tryz.isAgg133
  z32 := Tryz.sizeOf133
  v32 := Tryz.zeroValue133
  t35 := Tryz.underlying178
  a35 := Tryz.isAgg178
  z35 := Tryz.sizeOf178
  v35 := Tryz.zeroValue178
  t36 := Tryz.underlying179
  a36 := Tryz.isAgg179
  z36 := Tryz.sizeOf179
  v36 := Tryz.zeroValue179
  t41 := Tryz.underlying65
  a41 := Tryz.isAgg65
  z41 := Tryz.sizeOf65
  v41 := Tryz.zeroValue65
  t44 := Tryz.underlying154
  a44 := Tryz.isAgg154
  z44 := Tryz.sizeOf154
  v44 := Tryz.zeroValue154
  t46 := Tryz.underlying157
  a46 := Tryz.isAgg157
  z46 := Tryz.sizeOf157
  v46 := Tryz.zeroValue157
  t53 := Tryz.underlying187
  a53 := Tryz.isAgg187
  z53 := Tryz.sizeOf187
  v53 := Tryz.zeroValue187
  t57 := Tryz.underlying191
  a57 := Tryz.isAgg191
  z57 := Tryz.sizeOf191
  v57 := Tryz.zeroValue191
  t63 := Tryz.underlying193
  a63 := Tryz.isAgg193
  z63 := Tryz.sizeOf193
  v63 := Tryz.zeroValue193
  t64 := Tryz.underlying194
  a64 := Tryz.isAgg194
  z64 := Tryz.sizeOf194
  v64 := Tryz.zeroValue194
def compL_ren : Ren where
  f := fun
    | 44 => 105
    | n => n
  t := fun
    | 25 => 23
    | 26 => 9
    | 3 => 3
    | 4 => 4
    | 0 => 0
    | n => n
  g := fun n => n
theorem compL : Go.Proofs.SlLaysN.n44 Tryz.prog compL_ren where
  mixed := by kernel_rfl
  f44 := ⟨Tryz.f105.name, by kernel_rfl, by kernel_rfl⟩
  t0 := Tryz.underlying0
  a0 := Tryz.isAgg0
  z0 := Tryz.sizeOf0
  v0 := Tryz.zeroValue0
  t3 := Tryz.underlying3
  a3 := Tryz.isAgg3
  z3 := Tryz.sizeOf3
  v3 := Tryz.zeroValue3
  t4 := Tryz.underlying4
  a4 := Tryz.isAgg4
  z4 := Tryz.sizeOf4
  v4 := Tryz.zeroValue4
  t25 := Tryz.underlying23
  a25 := Tryz.isAgg23
  z25 := Tryz.sizeOf23
  v25 := Tryz.zeroValue23
  t26 := Tryz.underlying9
  a26 := Tryz.isAgg9
  z26 := Tryz.sizeOf9
  v26 := Tryz.zeroValue9
  i26 := by kernel_rfl

/-- An iterator over what nobody turns while it runs. -/
def SeqIn (n : Nat) (P : Program) (g : Nat) (lb : Array Value) (S : List (List UInt8) → Prop) (N : Nat) (w : World) : Prop :=
  ∀ (l : Nat) (J : List (List UInt8) → World → Prop) (W : World), (∀ pre W', J pre W' → Below w.heap.size w W') →
    (∀ pre x W1, J pre W1 → pre.length < N → YieldAt Fence.wide (n - 1) P l #[encStr x] W1 fun e W' => e = .returned (.bool true) ∧ J (pre ++ [x]) W' ∧ KeepsWalks W1 W') →
    J [] W → CallsIn Fence.wide n P g (#[.func (.yield l) #[] #[]] ++ lb) W fun e W' => (∃ v, e = .returned v) ∧ ∃ xs, S xs ∧ J xs W'

theorem take_next {zs : List (List UInt8)} {k : Nat} (h : k < zs.length) : zs.take k ++ [zs.getD k []] = zs.take (k + 1) := by
  rw [List.take_add_one]; simp [List.getD_eq_getElem?_getD, h]

set_option maxHeartbeats 2000000 in
/-- The iterator over a slice's texts. -/
theorem values_seq (n : Nat) (hn : 1 ≤ n) (Bs b off cap : Nat) (zs : List (List UInt8)) (hreach : zs.length * 16 ≤ 140737488351232) (w : World)
    (hBs : w.cell? ⟨Bs, 0, none⟩ = some (.slice (some ⟨b, off, none⟩) zs.length cap)) (hBl : Bs < w.heap.size) (hbl : b < w.heap.size)
    (hc : ∀ j, j < zs.length → w.cell? ⟨b, off + j, none⟩ = some (encStr (zs.getD j []))) :
    SeqIn n Tryz.prog 128 #[.pointer (some ⟨Bs, 0, none⟩)] (fun xs => xs = zs) zs.length w := by
  intro l J W hJ hY h0
  have hbw := hJ _ _ h0
  have hBs' := (hbw.cell (p := ⟨Bs, 0, none⟩) hBl).trans hBs
  have hf : Fence.wide.fn 128 := trivial
  refine callsIn_of_wp Tryz.func128 rfl hf ?_ rfl
  simp only [Tryz.ntmps128, List.size_toArray, List.length_cons, List.length_nil, Nat.reduceAdd, Nat.reduceSub, Array.replicate_succ, Array.replicate_zero, List.push_toArray, List.append_toArray, List.nil_append, List.cons_append]
  gi_wp2
  gi_loopw [7] (fun i wr => ∃ k : Nat, k ≤ zs.length ∧ i = .int .i64 k ∧ J (zs.take k) wr) (fun i _ => zs.length - (RowKit.intOf i).toNat)
  case atStart => exact ⟨0, Nat.zero_le _, rfl, by simpa using h0⟩
  case round =>
    obtain ⟨k, hk, rfl, hJs⟩ := hrel
    have hnx := hJ _ _ hJs
    have hcx : k < zs.length → wr.cell? ⟨b, off + k, none⟩ = some (encStr (zs.getD k [])) := fun h => (hnx.cell (p := ⟨b, off + k, none⟩) hbl).trans (hc k h)
    by_cases hlt : k < zs.length
    · obtain ⟨x, hx1, hcx'⟩ : ∃ x, zs.take k ++ [x] = zs.take (k + 1) ∧ wr.cell? ⟨b, off + k, none⟩ = some (encStr x) := ⟨_, take_next hlt, hcx hlt⟩
      obtain ⟨fn, tmps, assign, body, hy, hR⟩ := hY _ x wr hJs (by simp; omega)
      clear hcx hJs
      gi_wp2
      refine hR.mono ?_
      rintro e W3 ⟨rfl, hJ3, hk3⟩
      gi_wp2
      go_roundw
      case rel => exact ⟨k + 1, by omega, by simp, by rw [← hx1]; exact hJ3⟩
      case measure => simp [RowKit.intOf]; omega
    · obtain rfl : k = zs.length := by omega
      clear hcx
      gi_wp2
      go_end0
      exact ⟨⟨_, rfl⟩, _, rfl, by simpa using hJs⟩

set_option maxHeartbeats 2000000 in
/-- What is appended to nothing of what such an iterator gives. -/
theorem appendSeq_of (n : Nat) (hn : 2 ≤ n) (g : Nat) (lb : Array Value) (eg : ∀ args w, (callFunc g args).run Tryz.prog w = .ok (.enter g args) w)
    (S : List (List UInt8) → Prop) (N : Nat) (hN : N ≤ maxLen) (hNb : N * 16 ≤ 140737488355328) (w : World) (hseq : SeqIn (n - 1) Tryz.prog g lb S N w) :
    CallsIn Fence.wide n Tryz.prog 144 #[.slice none 0 0, .func (.func g) #[] lb] w fun e w' => ∃ (v : Value) (ss : List (List UInt8)), e = .returned v ∧ S ss ∧ w'.ownsRow w.heap.size 9 1 v ss.length (ss.map encStr) ∧ Below w.heap.size w w' := by
  have h11 : Fence.wide.fn 144 := trivial
  refine callsIn_of_wp_marks Tryz.func144 rfl h11 ?_ rfl
  simp only [Tryz.ntmps144, List.size_toArray, List.length_cons, List.length_nil, Nat.reduceAdd, Nat.reduceSub, Array.replicate_succ, Array.replicate_zero, List.push_toArray, List.append_toArray, List.nil_append, List.cons_append]
  gi_wp2
  refine wpIn_rangeFunc ?_
  intro fn hfn
  let sv : Value := .func (.func g) #[] lb
  have hz : (w.alloc (.cells #[.slice none 0 0] 23)).heap.size = w.heap.size + 1 := by simp
  have hv0 := World.alloc_heap_new w (.cells #[.slice none 0 0] 23)
  have hb0 : Below w.heap.size w (w.alloc (.cells #[.slice none 0 0] 23)) := (Below.refl _ w).alloc (Nat.le_refl _) _
  revert hz hv0 hb0
  generalize w.alloc (.cells #[.slice none 0 0] 23) = W0
  intro hz hv0 hb0
  obtain ⟨W1, hW1⟩ : ∃ W1, (W0.alloc (.deferred (some []))).alloc (.loop (AnyZ.apRec sortedL_ren fn sv w.heap.size W0.heap.size .ready none)) = W1 := ⟨_, rfl⟩
  have hold : ∀ k, k < W0.heap.size → W1.heap[k]? = W0.heap[k]? := fun k hk => by
    rw [← hW1]; exact (Below.heap_alloc _ _ k (by simp; omega)).trans (Below.heap_alloc _ _ k hk)
  have hb1 : Below w.heap.size w W1 := by rw [← hW1]; exact (hb0.alloc (by omega) _).alloc (by simp; omega) _
  have hM : AnyZ.ApAt sortedL_ren w fn sv w.heap.size (W0.heap.size + 1) W0.heap.size [] W1 := by
    refine ⟨⟨_, (hold w.heap.size (by omega)).trans hv0, ⟨rfl, .inl ⟨rfl, rfl⟩⟩, by simp⟩, ?_, ?_, hb1⟩
    · rw [← hW1]
      have h := World.alloc_heap_new (W0.alloc (.deferred (some []))) (.loop (AnyZ.apRec sortedL_ren fn sv w.heap.size W0.heap.size .ready none))
      rwa [World.size_alloc] at h
    · rw [← hW1]; exact (Below.heap_alloc _ _ _ (by simp)).trans (World.alloc_heap_new W0 _)
  refine ⟨W0.heap.size + 1, [{ target := .collected W0.heap.size, args := #[] }], W1, { target := .fn (.func g) lb, args := #[.func (.yield (W0.heap.size + 1)) #[] #[]] }, W1, g,
    #[.func (.yield (W0.heap.size + 1)) #[] #[]] ++ lb, W1, by rw [← hW1]; exact run_enterLoop_outer _ _ _ _ _, ?_, ?_, ?_, fun _ => by omega, ?_⟩
  · simp [resolve, go_sem]
  · intro f' hf'; trivial
  · simp [invoke, go_sem, eg]
  · refine (hseq (W0.heap.size + 1) (AnyZ.ApAt sortedL_ren w fn sv w.heap.size (W0.heap.size + 1) W0.heap.size) W1 (fun _ _ h => h.below)
      (fun pre x W hJ hl => AnyZ.apYield { sortedL with } Fence.wide (n - 1 - 1) w fn hfn _ w.heap.size (W0.heap.size + 1) W0.heap.size (by omega) (by omega) (by omega) (Nat.le_refl _) (by omega) N hN hNb pre x W hJ hl) hM).mono ?_
    rintro e W2 ⟨⟨v0, rfl⟩, ss, hS, h2⟩
    obtain ⟨v, hv, hrow, _⟩ := h2.box
    have hend := run_endLoop (P := Tryz.prog) h2.L (by simp [AnyZ.apRec])
    have hne : ∀ (cur : Array Value), Obj.cells #[v] 23 (0, 0) ≠ .cells cur 9 (0, 0) := fun cur e => by cases e
    obtain ⟨W3, hW3⟩ : ∃ W3, W2.putObj (W0.heap.size + 1) (.loop { AnyZ.apRec sortedL_ren fn sv w.heap.size W0.heap.size .ready none with state := .exhausted }) = W3 := ⟨_, rfl⟩
    have hg3 : W2.grownBy W3 (some (W0.heap.size + 1)) := by rw [← hW3]; exact grownBy_putObj_a _ _ _
    have hv3 : W3.heap[w.heap.size]? = some (.cells #[v] 23 (0, 0)) := by rw [← hW3]; exact (World.putObj_heap_other (by omega)).trans hv
    have hK3 : W3.heap[W0.heap.size]? = some (.deferred (some [])) := by rw [← hW3]; exact (World.putObj_heap_other (by omega)).trans h2.K
    have hrow3 := hrow.kept hg3 (ownsRow_ne_a hrow h2.L (fun cur e => by cases e))
    have hb3 : Below w.heap.size w W3 := h2.below.grown hg3 h2.below.size (fun k e => by cases e; omega)
    obtain ⟨hc3, hf3⟩ := cell_of_box_a hv3
    refine ⟨none, W3, by rw [← hW3]; exact hend, ?_⟩
    clear hW3 hW1 hold hM hend hseq
    gi_wp2
    rw [← hz]
    refine ⟨by simp, .inl ⟨_, _, rfl, run_takeDeferred hK3, ?_⟩⟩
    exact ⟨_, results_tmp rfl _ _ _, v, ss, rfl, hS, hrow3.kept (grownBy_putObj_a _ _ _) (ownsRow_ne_a hrow3 hK3 (fun cur e => by cases e)), hb3.grown (grownBy_putObj_a _ _ _) hb3.size (fun k e => by cases e; omega)⟩

set_option maxHeartbeats 2000000 in
theorem sorted_of (n : Nat) (hn : 4 ≤ n) (g : Nat) (lb : Array Value) (eg : ∀ args w, (callFunc g args).run Tryz.prog w = .ok (.enter g args) w)
    (S : List (List UInt8) → Prop) (N : Nat) (hN : N ≤ maxLen) (hNb : N * 16 ≤ 140737488355328) (w : World) (hseq : SeqIn (n - 1 - 1 - 1) Tryz.prog g lb S N w) (hS : ∀ xs, S xs → xs.length < 4611686018427387904) :
    CallsIn Fence.wide n Tryz.prog 103 #[.func (.func g) #[] lb] w fun e w' => ∃ (v : Value) (ss : List (List UInt8)), e = .returned v ∧ S ss ∧
      w'.ownsRow w.heap.size 9 1 v ss.length ((ss.mergeSort (fun x y => decide (x ≤ y))).map encStr) ∧ Below w.heap.size w w' := by
  have h6 : Fence.wide.fn 103 := trivial
  have h8 : Fence.wide.fn 126 := trivial
  have h9 : Fence.wide.fn 127 := trivial
  have h11 : Fence.wide.fn 144 := trivial
  have h1 : 1 ≤ n - 1 := by omega
  have h1' : 1 ≤ n := by omega
  have hcol : CallsIn Fence.wide (n - 1) Tryz.prog 126 #[.func (.func g) #[] lb] w fun e w' => ∃ (v : Value) (ss : List (List UInt8)), e = .returned v ∧ S ss ∧ w'.ownsRow w.heap.size 9 1 v ss.length (ss.map encStr) ∧ Below w.heap.size w w' := by
    have happ := appendSeq_of (n - 1 - 1) (by omega) g lb eg S N hN hNb w hseq
    refine callsIn_of_wp Tryz.func126 rfl h8 ?_ rfl
    simp only [Tryz.ntmps126, List.size_toArray, List.length_cons, List.length_nil, Nat.reduceAdd, Nat.reduceSub, Array.replicate_succ, Array.replicate_zero, List.push_toArray, List.append_toArray, List.nil_append, List.cons_append]
    gi_wp2_with (gi_at_call 144; refine happ.mono ?_; rintro e w' ⟨v, ss, rfl, hS, hrow, hb⟩)
    go_ret
    exact ⟨v, ss, rfl, hS, hrow, hb⟩
  refine callsIn_of_wp Tryz.func103 rfl h6 ?_ rfl
  simp only [Tryz.ntmps103, List.size_toArray, List.length_cons, List.length_nil, Nat.reduceAdd, Nat.reduceSub, Array.replicate_succ, Array.replicate_zero, List.push_toArray, List.append_toArray, List.nil_append, List.cons_append]
  gi_wp2_with (gi_at_call 126; refine hcol.mono ?_; rintro e W ⟨v, ss, rfl, hSs, hrow, hb⟩)
  have hlen := hS ss hSs
  rcases hrow.2 with ⟨rfl, hz⟩ | ⟨gb, cap, cur, rfl, hbase, hgb, r1, r2, r3, r4⟩
  · have hss : ss = [] := List.eq_nil_of_length_eq_zero hz
    subst hss
    have cN : CallsIn Fence.wide (n - 1) Tryz.prog 127 #[.slice none 0 0] W fun e w' => e = .returned (.tuple #[]) ∧ w' = W := callsIn_wide.2 (AnyM.slices_Sort_string_none sortL none 0 W)
    gi_wp2_with (gi_at_call 127; refine cN.mono ?_; rintro e w' ⟨rfl, rfl⟩)
    go_ret
    exact ⟨.slice none 0 0, [], rfl, hSs, by simpa using hrow, hb⟩
  · have hH : Holds encStr W gb 0 ss.toArray := holds_of_block hgb (by simpa using r4)
    have hgl : gb < W.heap.size := (Array.getElem?_eq_some_iff.1 hgb).1
    have cS : CallsIn Fence.wide (n - 1) Tryz.prog 127 #[.slice (some ⟨gb, 0, none⟩) ss.length cap] W fun e w' => e = .returned (.tuple #[]) ∧ ∃ k os, w' = grow (putRow encStr (Sort.ahead W k) gb 0 (ss.mergeSort fun x y => decide (x ≤ y)).toArray) os :=
      callsIn_wide.2 (AnyM.slices_Sort_string sortL gb 0 cap ss W hH hgl hlen)
    gi_wp2_with (gi_at_call 127; refine cS.mono ?_; rintro e w' ⟨rfl, nn, os, rfl⟩)
    go_ret
    exact ⟨_, ss, rfl, hSs, ownsRow_sorted (by simp) hbase hgb r1 r2 r3, hb.grown (grownBy_sorted _) hb.size (fun j hj => by cases hj; exact hbase)⟩
end Gv

/-
  Does each text of a list stand once: what the program's own function answers.
  Conditions: no more than a thousand texts.
-/
set_option linter.unusedSimpArgs false
set_option maxRecDepth 100000
namespace Gv
open Go Go.Proofs Go.Shelf Go.RowKit Go.Sort

theorem le_of_steps {l : List (List UInt8)} (hs : l.Pairwise (fun a b => decide (a ≤ b) = true)) (h : ∀ j, j + 1 < l.length → l.getD (j + 1) [] ≠ l.getD j []) : l.Nodup := by
  induction l with
  | nil => exact List.nodup_nil
  | cons x r ih =>
    rw [List.pairwise_cons] at hs
    refine List.nodup_cons.2 ⟨fun hx => ?_, ih hs.2 fun j hj => by simpa using h (j + 1) (by simpa using hj)⟩
    cases r with
    | nil => simp at hx
    | cons y r =>
      have h0 := h 0 (by simp)
      simp only [List.getD_cons_succ, List.getD_cons_zero, Nat.zero_add] at h0
      rcases List.mem_cons.1 hx with e | hm
      · exact h0 e.symm
      · have h1 : x ≤ y := by simpa using hs.1 y (by simp)
        have h2 : y ≤ x := by simpa using (List.pairwise_cons.1 hs.2).1 x hm
        exact h0 (List.le_antisymm h2 h1)

theorem keeps_iff (l : List (List UInt8)) : (Lib.compact l).length = l.length ↔ ∀ j, j + 1 < l.length → l.getD (j + 1) [] ≠ l.getD j [] := by
  have hl : (Lib.compact l).length = ((List.range l.length).filter (Lib.keeps l.toArray)).length := by simp [Lib.compact, Lib.compactUpTo]
  rw [hl]
  have hr : (List.range l.length).length = l.length := by simp
  conv => lhs; rhs; rw [← hr]
  rw [List.length_filter_eq_length_iff]
  have hg : ∀ j, j < l.length → l.toArray[j]! = l.getD j [] := fun j hj => by simp [List.getD_eq_getElem?_getD, hj]
  constructor
  · intro h j hj
    have := h (j + 1) (by simpa using hj)
    simp only [Lib.keeps, decide_eq_true_eq, Nat.add_sub_cancel] at this
    rcases this with e | e
    · omega
    · rw [hg _ hj, hg _ (by omega)] at e; exact e
  · intro h j hj
    simp only [List.mem_range] at hj
    simp only [Lib.keeps, decide_eq_true_eq]
    by_cases e : j = 0
    · exact .inl e
    · right
      obtain ⟨k, rfl⟩ : ∃ k, j = k + 1 := ⟨j - 1, by omega⟩
      rw [hg _ hj, Nat.add_sub_cancel, hg _ (by omega)]
      exact h k hj

theorem sorted_compact (zs : List (List UInt8)) : (Lib.compact (zs.mergeSort fun x y => decide (x ≤ y))).length = zs.length ↔ zs.Nodup := by
  have hp := List.mergeSort_perm zs (fun x y => decide (x ≤ y))
  have hs := List.pairwise_mergeSort (le := fun x y : List UInt8 => decide (x ≤ y)) (fun a b c h k => by simp at h k ⊢; exact List.le_trans h k) (fun a b => by simpa using List.le_total a b) zs
  rw [← hp.nodup_iff, ← hp.length_eq, keeps_iff]
  constructor
  · exact le_of_steps hs
  · intro hn j hj e
    have h1 : (zs.mergeSort fun x y => decide (x ≤ y))[j + 1]'hj = (zs.mergeSort fun x y => decide (x ≤ y))[j]'(by omega) := by
      simp only [List.getD_eq_getElem?_getD, List.getElem?_eq_getElem hj, List.getElem?_eq_getElem (show j < (zs.mergeSort fun x y => decide (x ≤ y)).length by omega), Option.getD_some] at e
      exact e
    have := (List.getElem_inj hn).1 h1
    omega

theorem grow_nil (w : World) : grow w #[] = w := by simp [grow]

set_option maxHeartbeats 2000000 in
/-- The iterator over no texts. -/
theorem values_none (n : Nat) (hn : 1 ≤ n) (Bs cap : Nat) (a : Option Addr) (w : World) (hBs : w.cell? ⟨Bs, 0, none⟩ = some (.slice a 0 cap)) (hBl : Bs < w.heap.size) :
    SeqIn n Tryz.prog 128 #[.pointer (some ⟨Bs, 0, none⟩)] (fun xs => xs = []) 0 w := by
  intro l J W hJ hY h0
  have hbw := hJ _ _ h0
  have hBs' := (hbw.cell (p := ⟨Bs, 0, none⟩) hBl).trans hBs
  have hf : Fence.wide.fn 128 := trivial
  refine callsIn_of_wp Tryz.func128 rfl hf ?_ rfl
  simp only [Tryz.ntmps128, List.size_toArray, List.length_cons, List.length_nil, Nat.reduceAdd, Nat.reduceSub, Array.replicate_succ, Array.replicate_zero, List.push_toArray, List.append_toArray, List.nil_append, List.cons_append]
  gi_wp2
  gi_loopw [7] (fun i wr => i = .int .i64 0 ∧ J [] wr) (fun _ _ => 0)
  case atStart => exact ⟨rfl, h0⟩
  case round =>
    obtain ⟨rfl, hJs⟩ := hrel
    gi_wp2
    go_end0
    exact ⟨⟨_, rfl⟩, _, rfl, hJs⟩

set_option maxHeartbeats 2000000 in
theorem values_box (n : Nat) (a : Option Addr) (len cap : Nat) (w : World) :
    CallsIn Fence.wide n Tryz.prog 104 #[.slice a len cap] w fun e w' => e = .returned (.func (.func 128) #[] #[.pointer (some ⟨w.heap.size, 0, none⟩)]) ∧ w' = w.alloc (.cells #[.slice a len cap] 23) := by
  have hf : Fence.wide.fn 104 := trivial
  refine callsIn_of_wp Tryz.func104 rfl hf ?_ rfl
  simp only [Tryz.ntmps104, List.size_toArray, List.length_cons, List.length_nil, Nat.reduceAdd, Nat.reduceSub, Array.replicate_succ, Array.replicate_zero, List.push_toArray, List.append_toArray, List.nil_append, List.cons_append]
  gi_wp2
  go_ret
  exact ⟨rfl, rfl⟩

set_option maxHeartbeats 4000000 in
theorem alone_calls (a : Option Addr) (cap : Nat) (zs : List (List UInt8)) (hz : zs.length ≤ 1000) (w : World)
    (hseq : ∀ n Bs, 1 ≤ n → w.heap.size = Bs → SeqIn n Tryz.prog 128 #[.pointer (some ⟨Bs, 0, none⟩)] (fun xs => xs = zs) zs.length (w.alloc (.cells #[.slice a zs.length cap] 23))) :
    Calls Tryz.prog 72 #[.slice a zs.length cap] w fun e w' => e = .returned (.bool (decide zs.Nodup)) ∧ Below w.heap.size w w' := by
  refine (callsIn_wide (n := 7)).1 ?_
  have hf : Fence.wide.fn 72 := trivial
  have hfv : Fence.wide.fn 104 := trivial
  have hfs : Fence.wide.fn 103 := trivial
  have hfc : Fence.wide.fn 105 := trivial
  have eg := enters_of Tryz.func128 (by kernel_rfl) rfl
  have cV := values_box 6 a zs.length cap w
  have cS := sorted_of 6 (by omega) 128 #[.pointer (some ⟨w.heap.size, 0, none⟩)] eg _ zs.length (by unfold maxLen; omega) (by omega) (w.alloc (.cells #[.slice a zs.length cap] 23)) (hseq _ _ (by omega) rfl) (fun xs e => by subst e; omega)
  refine callsIn_of_wp Tryz.func72 rfl hf ?_ rfl
  simp only [Tryz.ntmps72, List.size_toArray, List.length_cons, List.length_nil, Nat.reduceAdd, Nat.reduceSub, Array.replicate_succ, Array.replicate_zero, List.push_toArray, List.append_toArray, List.nil_append, List.cons_append]
  clear hseq
  gi_wp2_with (first
    | (gi_at_call 104; refine cV.mono ?_; rintro e w' ⟨rfl, rfl⟩)
    | (gi_at_call 103; refine cS.mono ?_; rintro e W ⟨v, ss, rfl, rfl, hrow, hb⟩)
    | fail)
  have hsz : (ss.mergeSort fun x y => decide (x ≤ y)).length = ss.length := by simp
  have hBw : Below w.heap.size w W := ((Below.refl _ w).alloc (Nat.le_refl _) _).trans (hb.mono (by simp))
  rcases hrow.2 with ⟨rfl, h0⟩ | ⟨gb, cap', cur, rfl, hbase, hgb, r1, r2, r3, r4⟩
  · have hss : ss = [] := List.eq_nil_of_length_eq_zero h0
    subst hss
    have cC : CallsIn Fence.wide 6 Tryz.prog 105 #[.slice none 0 0] W fun e w' => e = .returned (.slice none 0 0) ∧ w' = W := callsIn_wide.2 (AnyG.slices_Compact_string_empty compL none 0 W)
    clear cS cV hrow
    gi_wp2_with (gi_at_call 105; refine cC.mono ?_; rintro e w' ⟨rfl, rfl⟩)
    go_ret
    exact ⟨rfl, hBw⟩
  · have hH : Holds encStr W gb 0 (ss.mergeSort fun x y => decide (x ≤ y)).toArray := holds_of_block hgb (by simpa using r4)
    have hgl : gb < W.heap.size := (Array.getElem?_eq_some_iff.1 hgb).1
    have cC : CallsIn Fence.wide 6 Tryz.prog 105 #[.slice (some ⟨gb, 0, none⟩) ss.length cap'] W fun e w' => ∃ m : Nat, e = .returned (.slice (some ⟨gb, 0, none⟩) m cap') ∧ ((m = ss.length) ↔ ss.Nodup) ∧ Below w.heap.size w w' := by
      have := AnyG.slices_Compact_string compL gb 0 cap' (ss.mergeSort fun x y => decide (x ≤ y)) W hH (by rw [hsz]; omega) (by rw [hsz]; omega)
      rw [hsz] at this
      refine callsIn_wide.2 (this.mono ?_)
      rintro e w' ⟨rfl, q, rfl⟩
      refine ⟨_, rfl, sorted_compact ss, ?_⟩
      have hg := grownBy_sorted (w := W) (g := gb) (n := q) (os := #[]) (Lib.compact (ss.mergeSort fun x y => decide (x ≤ y)) ++ List.replicate (ss.length - (Lib.compact (ss.mergeSort fun x y => decide (x ≤ y))).length) []).toArray
      rw [grow_nil] at hg
      exact hBw.grown hg hBw.size (fun j e => by cases e; have h := hbase; rw [World.size_alloc] at h; omega)
    clear cS cV hrow hH
    gi_wp2_with (gi_at_call 105; refine cC.mono ?_; rintro e w' ⟨m, rfl, hm, hb'⟩)
    go_ret
    refine ⟨?_, hb'⟩
    show Ending.returned (.bool ((m : Int) == (ss.length : Int))) = _
    have : ((m : Int) == (ss.length : Int)) = decide ss.Nodup := by
      rw [Bool.eq_iff_iff]
      simp only [beq_iff_eq, decide_eq_true_eq, ← hm]
      omega
    rw [this]

theorem encStr_bytes (s : ByteArray) : encStr s.data.toList = .string s := by
  cases s; simp [encStr]

def names (l : List ByteArray) : List (List UInt8) := l.map fun s => s.data.toList

theorem fro_inv {Z : Nat → Prop} {μ : Mu} {hp : Array Obj} {es : List (List V)} {x : Value} (h : VRel Z μ hp (.fro es) x) :
    (es = [] ∧ ∃ a cap, x = .slice a 0 cap ∧ (a = none → cap = 0)) ∨ (∃ b off esz cap, ∃ c : Nat → Nat → Value, x = .slice (some ⟨b, off, none⟩) es.length cap ∧ Z b ∧ es.length ≤ cap ∧
      (∀ i, i < es.length → (es.getD i []).length = esz) ∧ (∀ i j, i < es.length → j < esz → cellAt hp b (off + i * esz + j) = some (c i j)) ∧
      (∀ i j, i < es.length → j < esz → VRel Z μ hp ((es.getD i []).getD j .any) (c i j))) := by
  cases h with
  | fro0 a cap hz => exact .inl ⟨rfl, a, cap, rfl, hz⟩
  | fro _ b off esz cap c h1 h2 h3 h4 h5 => exact .inr ⟨b, off, esz, cap, c, rfl, h1, h2, h3, h4, h5⟩

theorem pc_alone (l : List ByteArray) (hl : l.length ≤ 1000) : PCall Tryz.prog 72 [encS l] (gb (decide (names l).Nodup)) := by
  intro Z μ w xs hrel hzl
  obtain ⟨hlen, hx⟩ := hrel
  obtain ⟨x, rfl⟩ : ∃ x, xs = [x] := by
    match xs, hlen with
    | [x], _ => exact ⟨x, rfl⟩
  have h0 : VRel Z μ w.heap (encS l) x := hx 0 (by simp)
  have hnl : (names l).length = l.length := by simp [names]
  have fin : ∀ e w', (e = Ending.returned (.bool (decide (names l).Nodup)) ∧ RowKit.Below w.heap.size w w') → ∃ x Z', e = .returned x ∧ (∀ ν, VRel Z' ν w'.heap (gb (decide (names l).Nodup)) x) ∧ Same w w' ∧ (∀ b, Z b → Z' b) ∧ (∀ b, Z' b → Z b ∨ (w.heap.size ≤ b ∧ b < w'.heap.size)) ∧ OldBut w.heap w'.heap (fun _ => False) := by
    rintro e w' ⟨rfl, hb⟩
    exact ⟨_, Z, rfl, fun ν => .val _ rfl, ⟨hb.os, hb.tape, hb.output, hb.size⟩, fun _ h => h, fun _ h => .inl h, fun b hb' _ => hb.block b hb'⟩
  have box : ∀ (v : Value), (w.alloc (.cells #[v] 23)).cell? ⟨w.heap.size, 0, none⟩ = some v := fun v => by
    have := World.alloc_heap_new w (.cells #[v] 23)
    simp only [World.cell?, this]; rfl
  rcases fro_inv h0 with ⟨he, a, cap, rfl, _⟩ | ⟨b, off, esz, cap, c, rfl, hz, hle, hes, hc, hv⟩
  · have hl0 : l = [] := by simpa using he
    subst hl0
    refine (alone_calls a cap (names []) (by simp [names]) w (fun n Bs hn hB => ?_)).mono fin
    subst hB
    exact values_none n hn w.heap.size cap a _ (box _) (by simp)
  · have hel : ∀ i, (hi : i < l.length) → (l.map fun s => [gs s]).getD i [] = [gs l[i]] := fun i hi => by simp [List.getD_eq_getElem?_getD, hi]
    have hcell : ∀ i, (hi : i < l.length) → cellAt w.heap b (off + i) = some (.string l[i]) := fun i hi => by
      have h1 := hes i (by simpa using hi)
      rw [hel i hi] at h1
      simp only [List.length_cons, List.length_nil] at h1
      subst h1
      have h2 := hc i 0 (by simpa using hi) (by omega)
      have h3 := hv i 0 (by simpa using hi) (by omega)
      rw [hel i hi] at h3
      simp only [List.getD_cons_zero] at h3
      generalize c i 0 = y at h2 h3
      cases h3
      simpa using h2
    have hlen2 : (l.map fun s => [gs s]).length = (names l).length := by simp [names]
    rw [hlen2]
    refine (alone_calls (some ⟨b, off, none⟩) cap (names l) (by rw [hnl]; exact hl) w (fun n Bs hn hB => ?_)).mono fin
    subst hB
    have hbl := hzl b hz
    refine values_seq n hn w.heap.size b off cap (names l) (by rw [hnl]; omega) _ (box _) (by simp) (by simp; omega) (fun j hj => ?_)
    have hj' : j < l.length := by omega
    have e1 : (w.alloc (.cells #[.slice (some ⟨b, off, none⟩) (names l).length cap] 23)).cell? ⟨b, off + j, none⟩ = w.cell? ⟨b, off + j, none⟩ := by
      have := Below.heap_alloc w (.cells #[.slice (some ⟨b, off, none⟩) (names l).length cap] 23) b hbl
      simp only [World.cell?, this]
    rw [e1, cell_eq, hcell j hj']
    have e2 : (names l).getD j [] = l[j].data.toList := by simp [names, List.getD_eq_getElem?_getD, hj']
    rw [e2, encStr_bytes]
end Gv

/-
  Lists that a function owns: what appending, writing, reading make of them.
  Conditions: none beyond those that each lemma names.
-/
set_option linter.unusedSimpArgs false
namespace Gv
open Go

/-- The object that a list lies in. -/
def owner : V → Option Nat
  | .sl id _ _ _ => some id
  | _ => none

/-- A list that a function owns, whole. -/
def OwnA (H : View) (u : V) (sz : Nat) (es : List (List V)) : Prop :=
  (es = [] ∧ ∃ k, u = .emp k) ∨ (∃ n, u = .sl n 0 es.length sz ∧ H n = .arr sz es)

theorem OwnA.nil {H : View} {sz k : Nat} : OwnA H (.emp k) sz [] := .inl ⟨rfl, k, rfl⟩
theorem OwnA.len {H : View} {u : V} {sz : Nat} {es : List (List V)} (h : OwnA H u sz es) : lenV u = some es.length := by
  rcases h with ⟨rfl, k, rfl⟩ | ⟨n, rfl, _⟩ <;> rfl
theorem OwnA.live {H : View} {u : V} {sz : Nat} {es : List (List V)} (h : OwnA H u sz es) {id : Nat} (hid : owner u = some id) : H id = .arr sz es ∧ u = .sl id 0 es.length sz := by
  rcases h with ⟨rfl, k, rfl⟩ | ⟨n, rfl, hn⟩
  · simp [owner] at hid
  · simp [owner] at hid; subst hid; exact ⟨hn, rfl⟩
theorem OwnA.keep {H H' : View} {u : V} {sz : Nat} {es : List (List V)} (h : OwnA H u sz es) (hk : ∀ id, owner u = some id → H' id = H id) : OwnA H' u sz es := by
  rcases h with ⟨rfl, k, rfl⟩ | ⟨n, rfl, hn⟩
  · exact .inl ⟨rfl, k, rfl⟩
  · exact .inr ⟨n, rfl, by rw [hk n rfl]; exact hn⟩
theorem OwnA.fresh {H : View} {u : V} {sz m : Nat} {es : List (List V)} {o : AObj} (h : OwnA H u sz es) (hm : H m = .dead) : OwnA (H.set m o) u sz es :=
  h.keep fun id hid => by
    have := (h.live hid).1
    have e : id ≠ m := by rintro rfl; rw [hm] at this; simp at this
    simp [View.set, e]
theorem OwnA.ne {H : View} {u : V} {sz m : Nat} {es : List (List V)} (h : OwnA H u sz es) (hm : H m = .dead) : owner u ≠ some m := fun e => by
  have := (h.live e).1; rw [hm] at this; simp at this
theorem OwnA.other {H : View} {u : V} {sz m : Nat} {es : List (List V)} {o : AObj} (h : OwnA H u sz es) (hm : owner u ≠ some m) : OwnA (H.set m o) u sz es :=
  h.keep fun id hid => by
    have e : id ≠ m := by rintro rfl; exact hm hid
    simp [View.set, e]
theorem OwnA.new {H : View} {n sz : Nat} {es : List (List V)} : OwnA (H.set n (.arr sz es)) (.sl n 0 es.length sz) sz es := .inr ⟨n, rfl, by simp [View.set]⟩

theorem elemsOf_new {H : View} {m z sz : Nat} {e : List V} : elemsOf (View.set H m (.arr z [e])) (.sl m 0 1 sz) = some ([e], [m]) := by
  simp [elemsOf, View.set]

/-- What a step leaves of the objects but for one list's. -/
def Left (H H' : View) (u u' : V) : Prop := ∀ id, H id ≠ .dead → owner u ≠ some id → H' id = H id ∧ owner u' ≠ some id

theorem goApp_own {sz bytes : Nat} {u : V} {es xs : List (List V)} {H : View} {K : V → View → Prop} {w : Veil (H, K)} (ho : OwnA H u sz es) (hx : xs ≠ []) (hok : (xs.all fun e => e.length == sz && e.all cellOk) = true)
    (hl : (es.length + xs.length) * bytes < limit) (hl2 : es.length + xs.length < limit) (hk : ∀ u' H', OwnA H' u' sz (es ++ xs) → Left H H' u u' → K u' H') : GoApp sz bytes u xs H K w := by
  have he : xs.isEmpty = false := by cases xs with | nil => exact absurd rfl hx | cons => rfl
  rcases ho with ⟨rfl, k, rfl⟩ | ⟨n, rfl, hn⟩
  · rw [goApp_emp _ _ _ _ _ _ _ he]
    refine ⟨hok, ⟨by simpa using hl, by simpa using hl2⟩, fun m hm => hk _ _ ?_ ?_⟩
    · exact .inr ⟨m, rfl, by simp [View.set]⟩
    · intro id hid _
      have e : id ≠ m := by rintro rfl; exact hid hm
      exact ⟨by simp [View.set, e], by simp [owner, Ne.symm e]⟩
  · rw [goApp_sl _ _ _ _ _ _ _ _ _ _ he, hn]
    refine ⟨hok, ⟨by simp, rfl, hl, hl2⟩, fun m hm => hk _ _ ?_ ?_⟩
    · refine .inr ⟨m, by simp, by simp [View.set]⟩
    · intro id hid ho
      have e : id ≠ m := by rintro rfl; exact hid hm
      have e2 : id ≠ n := by rintro rfl; exact ho rfl
      exact ⟨by simp [View.set, e, e2], by simp [owner, Ne.symm e]⟩

theorem Left.refl {H : View} {u : V} : Left H H u u := fun _ _ h => ⟨rfl, h⟩
/-- The same, nothing may be appended too. -/
theorem goApp_all {sz bytes : Nat} {u : V} {es xs : List (List V)} {H : View} {K : V → View → Prop} {w : Veil (H, K)} (ho : OwnA H u sz es) (hok : (xs.all fun e => e.length == sz && e.all cellOk) = true)
    (hl : (es.length + xs.length) * bytes < limit) (hl2 : es.length + xs.length < limit) (hk : ∀ u' H', OwnA H' u' sz (es ++ xs) → Left H H' u u' → K u' H') : GoApp sz bytes u xs H K w := by
  cases xs with
  | nil =>
    have := hk u H (by simpa using ho) .refl
    rcases ho with ⟨rfl, k, rfl⟩ | ⟨n, rfl, hn⟩
    · exact this
    · exact this
  | cons x xs => exact goApp_own ho (by simp) hok hl hl2 hk

theorem Lent.own {H : View} {u : V} {sz : Nat} {es : List (List V)} (h : OwnA H u sz es) (ht : ∀ e ∈ es, ∀ v ∈ e, Tree v) : Lent H u (.fro es) := by
  rcases h with ⟨rfl, k, rfl⟩ | ⟨n, rfl, hn⟩
  · exact fun h _ => .emp k
  · have := Lent.sl (off := 0) (len := es.length) (esz := sz) hn (by simp) ht
    rwa [List.drop_zero, List.take_of_length_le (by simp)] at this

theorem FrN.own {h : Heap} {u : V} {sz : Nat} {es : List (List V)} {es' : List (List V)} (ho : OwnA h.view u sz es) (hl : es'.length = es.length) (hi : ∀ i, i < es.length → (es'.getD i []).length = (es.getD i []).length)
    (hv : ∀ i j, i < es.length → j < (es'.getD i []).length → FrN h ((es.getD i []).getD j .any) ((es'.getD i []).getD j .any)) : FrN h u (.fro es') := by
  rcases ho with ⟨rfl, k, rfl⟩ | ⟨n, rfl, hn⟩
  · have : es' = [] := List.length_eq_zero_iff.1 (by simpa using hl)
    subst this
    exact .emp k
  · exact .sl n 0 es.length sz sz es es' hn (by simp) hl (fun i h => by rw [Nat.zero_add]; exact hi i h) (fun i j h1 h2 => by rw [Nat.zero_add]; exact hv i j h1 h2)

/-- Plain values, new. -/
theorem FrN.vals {h : Heap} {α : Type} {u : V} {sz : Nat} {l : List α} {f : α → Value} (ho : OwnA h.view u sz (l.map fun x => [V.val (f x)])) : FrN h u (.fro (l.map fun x => [V.val (f x)])) := by
  refine FrN.own ho rfl (fun i _ => rfl) (fun i j hi hj => ?_)
  simp only [List.length_map] at hi
  have e : (l.map fun x => [V.val (f x)]).getD i [] = [V.val (f l[i])] := by simp [List.getD_eq_getElem?_getD, hi]
  rw [e] at hj ⊢
  have : j = 0 := by simp at hj; omega
  subst this
  exact .val _

/-- What was there is as it was; what came is new. -/
def Fresh (H H' : View) (r : V) : Prop := ∀ id, H id ≠ .dead → H' id = H id ∧ owner r ≠ some id
theorem Fresh.emp {H : View} {k : Nat} : Fresh H H (.emp k) := fun _ _ => ⟨rfl, by simp [owner]⟩
theorem Fresh.new {H : View} {n a b c : Nat} {o : AObj} (hn : H n = .dead) : Fresh H (H.set n o) (.sl n a b c) := fun id hid => by
  have e : id ≠ n := by rintro rfl; exact hid hn
  exact ⟨by simp [View.set, e], by simp [owner, Ne.symm e]⟩
theorem OwnA.left {H H' : View} {u u' x : V} {sz : Nat} {es : List (List V)} (h : OwnA H x sz es) (hl : Left H H' u u') (hd : ∀ id, owner x = some id → owner u ≠ some id) : OwnA H' x sz es :=
  h.keep fun id hid => (hl id (by rw [(h.live hid).1]; simp) (hd id hid)).1
theorem OwnA.fresh' {H H' : View} {x r : V} {sz : Nat} {es : List (List V)} (h : OwnA H x sz es) (hl : Fresh H H' r) : OwnA H' x sz es :=
  h.keep fun id hid => (hl id (by rw [(h.live hid).1]; simp)).1

theorem set_set {H : View} {n : Nat} {a b : AObj} : View.set (View.set H n a) n b = View.set H n b := by
  funext id; simp only [View.set]; split <;> rfl
theorem dead_if {m b : Nat} {o x : AObj} (h : (if m = b then o else x) = .dead) (ho : o ≠ .dead) : m ≠ b ∧ x = .dead := by
  split at h
  · exact absurd h ho
  · rename_i e; exact ⟨e, h⟩
theorem arr_live {z : Nat} {es : List (List V)} : AObj.arr z es ≠ .dead := by simp

/-! what is lent, one by one -/
def Lents (H : View) : List V → List V → Prop
  | [], [] => True
  | v :: vs, t :: ts => Lent H v t ∧ Lents H vs ts
  | _, _ => False
theorem Lents.len {H : View} : ∀ {vs ts : List V}, Lents H vs ts → ts.length = vs.length
  | [], [], _ => rfl
  | _ :: _, _ :: _, h => by simp [Lents.len h.2]
theorem Lents.get {H : View} : ∀ {vs ts : List V}, Lents H vs ts → ∀ i, i < vs.length → Lent H (vs.getD i .any) (ts.getD i .any)
  | [], [], _, i, hi => by simp at hi
  | _ :: _, _ :: _, h, 0, _ => h.1
  | _ :: _, _ :: _, h, i + 1, hi => Lents.get h.2 i (by simpa using hi)
theorem CallG.lend {P : Program} {q : Bool} {f : FuncId} {H : View} {vs ts : List V} {K : V → View → Prop} {v : Veil (H, K)} {t : V} (hc : PCall P f ts t) (hok : calleeOk P f = true) (hf : Bare t) (hl : Lents H vs ts) (hk : K t H) : CallG P q f vs H K v :=
  CallG.borrow hc hok hf hl.len hl.get hk
theorem CallG.lendN {P : Program} {q : Bool} {f : FuncId} {H : View} {vs ts : List V} {K : V → View → Prop} {v : Veil (H, K)} {t : V} (hc : PNew P f ts t) (hok : calleeOk P f = true) (hl : Lents H vs ts) (hk : K t H) : CallG P q f vs H K v :=
  CallG.borrowN hc hok hl.len hl.get hk

/-- A variable's box is lent. -/
theorem Lent.box {H : View} {q z : Nat} {e : List V} (hq : H q = .arr z [e]) (ht : ∀ v ∈ e, Tree v) : Lent H (.ptr q 0 0) (.fptr e 0) := by
  rintro h rfl
  refine .ptr q 0 0 z [e] e hq (by simp) (by simp) (fun k hk => ?_)
  simp only [List.getD_cons_zero]
  have e2 : e.getD k .any = e[k] := by simp [List.getD_eq_getElem?_getD, hk]
  rw [e2]
  exact .tree _ (ht _ (List.getElem_mem _))

theorem OwnA.sl {H : View} {u : V} {sz : Nat} {es : List (List V)} (h : OwnA H u sz es) (hne : 0 < es.length) : ∃ n, u = .sl n 0 es.length sz ∧ H n = .arr sz es := by
  rcases h with ⟨rfl, _⟩ | h
  · simp at hne
  · exact h

end Gv

/-
  A copy of a list; may a grammar be: what the program's own function answers.
  Conditions: lists that are no longer than an int says, numbers that are ints, no more than a thousand names.
-/
set_option linter.unusedSimpArgs false
set_option maxRecDepth 100000
namespace Gv
open Go Go.Proofs

/-- A call that is handed an empty list of which nobody knows whether it is nil. -/
theorem ACall.fro0 {P : Program} {f : FuncId} {h : Heap} (h1 : ACall P f [.emp 1] h (.emp 1) h) (h2 : ACall P f [.emp 2] h (.emp 2) h) (h3 : ACall P f [.nem] h (.emp 2) h) : ACall P f [.fro []] h (.emp 0) h := by
  refine ⟨Nat.le_refl _, fun Z μ F w xs hrel hr hfree => ?_⟩
  obtain ⟨hl, hv⟩ := hrel
  obtain ⟨x, rfl⟩ : ∃ x, xs = [x] := by
    match xs, hl with
    | [x], _ => exact ⟨x, rfl⟩
  have h0 : VRel Z μ w.heap (.fro []) x := hv 0 (by simp)
  have one : ∀ v, VRel Z μ w.heap v x → VRels Z μ w.heap [v] [x] := fun v h => ⟨rfl, fun i hi => by
    simp at hi; subst hi; exact h⟩
  have weak : ∀ k, ACall P f [if k = 3 then .nem else .emp k] h (if k = 3 then .emp 2 else .emp k) h → VRel Z μ w.heap (if k = 3 then .nem else .emp k) x → Calls P f [x].toArray w fun e w' => ∃ x Z' μ', e = .returned x ∧ VRel Z' μ' w'.heap (.emp 0) x ∧ HRel Z' μ' w'.heap (cat h F) ∧ Ext Z μ w h.length Z' μ' w' ∧ (∀ id, id < h.length ∨ h.length ≤ id → μ' id = μ id) := by
    intro k hk hx
    refine (hk.2 Z μ F w [x] (one _ hx) hr hfree).mono ?_
    rintro e w' ⟨y, Z', μ', rfl, hy, rest⟩
    refine ⟨y, Z', μ', rfl, ?_, rest⟩
    have : ∀ k', VRel Z' μ' w'.heap (.emp k') y → VRel Z' μ' w'.heap (.emp 0) y := fun k' h => by
      cases h with | emp _ a _ _ => exact .emp 0 a (by simp) (by simp)
    split at hy <;> exact this _ hy
  rcases fro_inv h0 with ⟨_, a, cap, rfl, hz⟩ | ⟨b, off, esz, cap, c, rfl, _, _, _⟩
  · cases a with
    | none =>
      have := hz rfl
      subst this
      exact weak 1 (by simpa using h1) (.emp 1 none (by simp) (by simp))
    | some a =>
      cases cap with
      | zero => exact weak 2 (by simpa using h2) (.emp 2 (some a) (by simp) (by simp))
      | succ c => exact weak 3 (by simpa using h3) (.nem a (c + 1))
  · cases cap with
    | zero => exact weak 2 (by simpa using h2) (.emp 2 (some ⟨b, off, none⟩) (by simp) (by simp))
    | succ c => exact weak 3 (by simpa using h3) (.nem ⟨b, off, none⟩ (c + 1))

/-- What a copy of a list is: nothing, or a new object. -/
def CopyOf (sz : Nat) (es : List (List V)) (H : View) (K : V → View → Prop) : Prop :=
  (es = [] → ∀ k, K (.emp k) H) ∧ (es ≠ [] → ∀ n, H n = .dead → K (.sl n 0 es.length sz) (H.set n (.arr sz es)))

def S_slices_Clone___string_string_ : SF := ⟨.seq (.region false [⟨none, [((some 2), .op (.mov (.val (.emp 1))))]⟩]) <|
  .seq (.seq (.region false [⟨none, [((some 3), .op (.mov (.tmp 0))), ((some 4), .op (.nil true 0 (.tmp 3) (.val (.emp 1))))]⟩]) <|
  .cond (.tmp 4) (.seq (.region false [⟨none, [((some 2), .op (.mov (.val (.emp 1))))]⟩]) <|
  .ret) (.skip)) <|
  .seq (.region false [⟨none, [((some 5), .op (.mov (.val (.emp 2)))), ((some 6), .op (.mov (.tmp 0))), ((some 7), .op (.app 1 16 (.tmp 5) (.tmp 6))), ((some 2), .op (.mov (.tmp 7)))]⟩]) <|
  .ret,
  [.tmp 2], 8⟩
theorem S_slices_Clone___string_string__ok : compF Tryz.prog 69 [] = some S_slices_Clone___string_string_ := by kernel_rfl

theorem PCall.tree {P : Program} {f : FuncId} {vs : List V} {t : V} (hv : ∀ v ∈ vs, Tree v) (ht : Tree t) (h : ∀ H, MCall P f vs H fun r _ => r = t) : PCall P f vs t :=
  PCall.of hv ((h _).mono fun r H' e h' _ => by rw [e]; exact .tree _ ht)

theorem elemsOf_nem {H : View} : elemsOf H .nem = some ([], []) := id rfl
theorem goApp_none {H : View} (sz bytes k : Nat) (K : V → View → Prop) (w : Veil (H, K)) : GoApp sz bytes (.emp k) [] H K w = K (.emp k) H := propext Iff.rfl

theorem mc_CloneS (l : List ByteArray) (hl : l.length ≤ 100000) (H : View) (K : V → View → Prop) (hk : CopyOf 1 (l.map fun s => [gs s]) H K) : MCall Tryz.prog 69 [encS l] H K := by
  cases l with
  | nil =>
    have hp : ∀ v t, Tree v → Tree t → (∀ H, MCall Tryz.prog 69 [v] H fun r _ => r = t) → PCall Tryz.prog 69 [v] t := fun v t hv ht h => PCall.tree (by intro x hx; simp at hx; subst hx; exact hv) ht h
    have h1 := hp (.emp 1) (.emp 1) (.emp 1) (.emp 1) (fun H => by
      refine MCall.of mixed S_slices_Clone___string_string__ok ?_
      simp (disch := omega) only [↓wr, ↓reduceIte, wq, eq_self, ne_eq, implies_true, oneV, intOp, goI, splice, sBuild, fillE, nilB, isNil, Nat.reduceEqDiff, Nat.reduceAdd, Nat.reduceLT, Nat.reduceLeDiff, Int.reduceNeg, Int.reduceToNat, reduceCtorEq, decide_true, decide_false, S_slices_Clone___string_string_])
    have h2 := hp (.emp 2) (.emp 2) (.emp 2) (.emp 2) (fun H => by
      refine MCall.of mixed S_slices_Clone___string_string__ok ?_
      simp (disch := omega) only [↓wr, ↓reduceIte, wq, eq_self, ne_eq, implies_true, oneV, intOp, goI, splice, sBuild, fillE, nilB, isNil, Nat.reduceEqDiff, Nat.reduceAdd, Nat.reduceLT, Nat.reduceLeDiff, Int.reduceNeg, Int.reduceToNat, reduceCtorEq, decide_true, decide_false, S_slices_Clone___string_string_, goApp_none, List.isEmpty_nil])
    have h3 := hp .nem (.emp 2) .nem (.emp 2) (fun H => by
      refine MCall.of mixed S_slices_Clone___string_string__ok ?_
      simp (disch := omega) only [↓wr, ↓reduceIte, wq, eq_self, ne_eq, implies_true, oneV, intOp, goI, splice, sBuild, fillE, nilB, isNil, Nat.reduceEqDiff, Nat.reduceAdd, Nat.reduceLT, Nat.reduceLeDiff, Int.reduceNeg, Int.reduceToNat, reduceCtorEq, decide_true, decide_false, S_slices_Clone___string_string_, elemsOf_nem, goApp_none, List.isEmpty_nil])
    refine ⟨by kernel_rfl, ?_⟩
    rintro h rfl
    exact ⟨.emp 0, h, ACall.fro0 (ACall.of_pure h1 h) (ACall.of_pure h2 h) (ACall.of_pure h3 h), .refl _, hk.1 rfl 0⟩
  | cons x r =>
    refine MCall.of mixed S_slices_Clone___string_string__ok ?_
    simp only [List.length_cons] at hl
    simp (disch := omega) only [↓wr, ↓reduceIte, wq, eq_self, ne_eq, implies_true, oneV, intOp, goI, splice, sBuild, fillE, nilB, isNil, Nat.reduceEqDiff, Nat.reduceAdd, Nat.reduceLT, Nat.reduceLeDiff, Int.reduceNeg, Int.reduceToNat, reduceCtorEq, decide_true, decide_false, S_slices_Clone___string_string_, encS]
    refine ⟨?_, ?_, ?_⟩
    · simp [List.all_map, encS, cellOk]
    · unfold limit; simp; omega
    · intro n hn
      have := hk.2 (by simp) n hn
      simp (disch := omega) only [↓wr, ↓reduceIte, wq, eq_self, ne_eq, implies_true, oneV, intOp, goI, splice, sBuild, fillE, nilB, isNil, Nat.reduceEqDiff, Nat.reduceAdd, Nat.reduceLT, Nat.reduceLeDiff, Int.reduceNeg, Int.reduceToNat, reduceCtorEq, decide_true, decide_false]
      simpa [encT] using this

theorem CopyOf.own {sz : Nat} {es : List (List V)} {H : View} : CopyOf sz es H fun r H' => OwnA H' r sz es ∧ Fresh H H' r :=
  ⟨fun he k => ⟨by rw [he]; exact .nil, .emp⟩, fun _ n hn => ⟨.new, .new hn⟩⟩
theorem mo_CloneS (l : List ByteArray) (hl : l.length ≤ 100000) (H : View) : MCall Tryz.prog 69 [encS l] H fun r H' => OwnA H' r 1 (l.map fun s => [gs s]) ∧ Fresh H H' r := mc_CloneS l hl H _ .own
end Gv

/-
  May a grammar be: what the program's own function answers.
  Conditions: lists that are no longer than an int says, numbers that are ints, no more than a thousand names.
-/
set_option linter.unusedSimpArgs false
set_option maxRecDepth 100000
namespace Gv
open Go Go.Proofs

def rulesC (g : Gram) : List Rule → Int → Bool
  | [], next => next == g.nons.length
  | r :: l, next => decide (0 ≤ r.left) && decide (r.left ≤ next) && ruleB g r && rulesC g l (if r.left + 1 > next then r.left + 1 else next)
def allNames (g : Gram) : List ByteArray := g.nons ++ g.terms.map Term.name
def rightC (g : Gram) : Bool :=
  termsC g.terms && (decide ((1 : Int) ≤ g.nons.length) && decide ((g.nons.length : Int) ≤ 16)) && (decide ((1 : Int) ≤ g.rules.length) && decide ((g.rules.length : Int) ≤ 40)) && decide (names (allNames g)).Nodup && (decide (0 ≤ g.start) && decide (g.start ≤ (g.nons.length : Int) - 1)) &&
    !(g.nons.any fun s => !nameB (bts s)) && rulesC g g.rules 0

theorem gs_list_tree {l : List ByteArray} : ∀ e ∈ (l.map fun s => [gs s]), ∀ v ∈ e, Tree v := by
  intro e he v hv
  obtain ⟨a, _, rfl⟩ := List.mem_map.1 he
  rw [List.mem_singleton] at hv
  subst hv
  exact .val _

set_option maxHeartbeats 4000000 in
theorem mc_cRight (g : Gram) (hg : g.Ok) (hs : g.nons.length + g.terms.length ≤ 1000) (H : View) : MCall Tryz.prog 41 [.agg (encG g)] H fun r _ => r = gb (rightC g) := by
  refine MCall.of mixed S_cfg_Right_ok ?_
  have hn := hg.nons
  have ht := hg.terms
  have hr := hg.rules
  unfold Short at hn ht hr
  simp (disch := omega) only [↓wr, ↓reduceIte, wq, eq_self, ne_eq, implies_true, oneV, intOp, goI, splice, sBuild, fillE, nilB, isNil, Nat.reduceEqDiff, Nat.reduceAdd, Nat.reduceLT, Nat.reduceLeDiff, Int.reduceNeg, Int.reduceToNat, reduceCtorEq, decide_true, decide_false, S_cfg_Right, encG, encS]
  refine CallG.loud ((mo_CloneS g.nons (by omega) H).mono ?_)
  rintro u H1 ⟨hu, hf⟩
  simp (disch := omega) only [↓wr, ↓reduceIte, wq, eq_self, ne_eq, implies_true, oneV, intOp, goI, splice, sBuild, fillE, nilB, isNil, Nat.reduceEqDiff, Nat.reduceAdd, Nat.reduceLT, Nat.reduceLeDiff, Int.reduceNeg, Int.reduceToNat, reduceCtorEq, decide_true, decide_false, encG, encS]
  refine LoopG.up g.terms.length (fun i T H => T 1 = .fptr (encG g) 0 ∧ (∃ u, T 3 = u ∧ OwnA H u 1 ((g.nons ++ (g.terms.take i).map Term.name).map fun s => [gs s])) ∧ T 13 = encTs g.terms ∧ T 14 = gi g.terms.length ∧ T 15 = gi i) ?_ ?_
  · exact ⟨rfl, ⟨u, rfl, by simpa using hu⟩, rfl, rfl, rfl⟩
  rintro i k T H' hk ⟨h1, ⟨u, h3, hu⟩, h13, h14, h15⟩
  simp (disch := omega) only [↓wr, ↓reduceIte, wq, eq_self, ne_eq, implies_true, oneV, intOp, goI, splice, sBuild, fillE, nilB, isNil, Nat.reduceEqDiff, Nat.reduceAdd, Nat.reduceLT, Nat.reduceLeDiff, Int.reduceNeg, Int.reduceToNat, reduceCtorEq, decide_true, decide_false, B_cfg_Right_0, h1, h13, h14, h15, encTs]
  refine GoB.dec (fun hc => ?_) (fun hc => ?_)
  · have hg2 : g.terms[i]? = some (g.terms[i]'(by omega)) := List.getElem?_eq_getElem (by omega)
    have htk : (g.terms.take (i + 1)).map Term.name = (g.terms.take i).map Term.name ++ [(g.terms[i]'(by omega)).name] := by
      rw [List.take_add_one, hg2, List.map_append]; rfl
    generalize g.terms[i]'(by omega) = t at hg2 htk
    simp (disch := omega) only [↓wr, ↓reduceIte, wq, eq_self, ne_eq, implies_true, oneV, intOp, goI, splice, sBuild, fillE, nilB, isNil, Nat.reduceEqDiff, Nat.reduceAdd, Nat.reduceLT, Nat.reduceLeDiff, Int.reduceNeg, Int.reduceToNat, reduceCtorEq, decide_true, decide_false, h1, h3, h13, h14, h15, encTs, encT, List.getElem?_map, hg2]
    intro b hb
    try simp (disch := omega) only [↓wr, ↓reduceIte, wq, eq_self, ne_eq, implies_true, oneV, intOp, goI, splice, sBuild, fillE, nilB, isNil, Nat.reduceEqDiff, Nat.reduceAdd, Nat.reduceLT, Nat.reduceLeDiff, Int.reduceNeg, Int.reduceToNat, reduceCtorEq, decide_true, decide_false, h1, h3, h13, h14, h15, set_set]
    intro m hm
    have hmb := (dead_if hm arr_live).1
    have hm := (dead_if (dead_if hm arr_live).2 arr_live).2
    try simp (disch := omega) only [↓wr, ↓reduceIte, wq, eq_self, ne_eq, implies_true, oneV, intOp, goI, splice, sBuild, fillE, nilB, isNil, Nat.reduceEqDiff, Nat.reduceAdd, Nat.reduceLT, Nat.reduceLeDiff, Int.reduceNeg, Int.reduceToNat, reduceCtorEq, decide_true, decide_false, h1, h3, h13, h14, h15, elemsOf_new]
    have hl : ((g.nons ++ (g.terms.take i).map Term.name).map fun s => [gs s]).length ≤ 1000 := by simp; omega
    refine goApp_own (((hu.fresh hb).other (hu.ne hb)).fresh (by simp [View.set, hm, hmb])) (by simp) (by simp [cellOk]) (by unfold limit; simp at hl ⊢; omega) (by unfold limit; simp at hl ⊢; omega) ?_
    intro u' H2 hu' _
    simp (disch := omega) only [↓wr, ↓reduceIte, wq, eq_self, ne_eq, implies_true, oneV, intOp, goI, splice, sBuild, fillE, nilB, isNil, Nat.reduceEqDiff, Nat.reduceAdd, Nat.reduceLT, Nat.reduceLeDiff, Int.reduceNeg, Int.reduceToNat, reduceCtorEq, decide_true, decide_false, h1, h3, h13, h14, h15]
    refine up_next hk (by omega) ⟨h1, ⟨u', rfl, ?_⟩, h13, h14, rfl⟩
    rw [htk]
    simpa using hu'
  · rw [List.take_of_length_le (by omega)] at hu
    have hal : H' = H' := rfl
    have hall : (allNames g).length ≤ 1000 := by simp [allNames]; omega
    repeat' (first | (refine GoB.dec (fun _ => ?_) (fun _ => ?_)) | (refine GoB.eq (fun _ => ?_) (fun _ => ?_)) | (refine GoB.ne (fun _ => ?_) (fun _ => ?_)) | (refine GoB.split (fun _ => ?_) (fun _ => ?_)) | (refine CallG.pure (pc_cterms g.terms hg.terms) (by kernel_rfl) ?_) | (refine CallG.pure (pc_cwithin _ _ _) (by kernel_rfl) ?_) | (refine CallG.lend (pc_alone (allNames g) hall) (by kernel_rfl) (.val _) ⟨Lent.own hu gs_list_tree, trivial⟩ ?_) | (simp (disch := omega) only [↓wr, ↓reduceIte, wq, eq_self, ne_eq, implies_true, oneV, intOp, goI, splice, sBuild, fillE, nilB, isNil, Nat.reduceEqDiff, Nat.reduceAdd, Nat.reduceLT, Nat.reduceLeDiff, Int.reduceNeg, Int.reduceToNat, reduceCtorEq, decide_true, decide_false, h1, h3, h13, h14, h15, encG, encS]))
    all_goals try (simp [rightC, *]; done)
    rename_i e1 e2 e3 e4 e5
    refine CallG.pure (pc_ContainsFuncS g.nons hg.nons 74 [] (by simp) (fun s => !nameB (bts s)) (fun x _ => pc_cRight1 x) (by kernel_rfl)) (by kernel_rfl) ?_
    repeat' (first | (refine GoB.dec (fun _ => ?_) (fun _ => ?_)) | (refine GoB.eq (fun _ => ?_) (fun _ => ?_)) | (refine GoB.ne (fun _ => ?_) (fun _ => ?_)) | (refine GoB.split (fun _ => ?_) (fun _ => ?_)) | (simp (disch := omega) only [↓wr, ↓reduceIte, wq, eq_self, ne_eq, implies_true, oneV, intOp, goI, splice, sBuild, fillE, nilB, isNil, Nat.reduceEqDiff, Nat.reduceAdd, Nat.reduceLT, Nat.reduceLeDiff, Int.reduceNeg, Int.reduceToNat, reduceCtorEq, decide_true, decide_false, h1, h3, h13, h14, h15, encG, encS]))
    all_goals try (simp [rightC, *]; done)
    rename_i e6
    have hle : g.rules.length ≤ 40 := by simp at e3; omega
    have hpre : ∀ b, rulesC g g.rules 0 = b → gb b = gb (rightC g) := fun b e => by
      simp only [rightC, e1, e2, e3, e4, e5, e6, e, decide_true, Bool.true_and, Bool.not_false]
    refine LoopG.up g.rules.length (fun i T _ => ∃ w : Int, 0 ≤ w ∧ w ≤ i ∧ rulesC g (g.rules.drop i) w = rulesC g g.rules 0 ∧ T 1 = .fptr (encG g) 0 ∧ T 6 = gi w ∧ T 62 = .fro (g.rules.map encR) ∧ T 63 = gi g.rules.length ∧ T 64 = gi i) ?_ ?_
    · exact ⟨0, by omega, by omega, rfl, h1, rfl, rfl, rfl, rfl⟩
    rintro i k T H' hk ⟨w, hw1, hw2, hi, h1, h6, h62, h63, h64⟩
    simp (disch := omega) only [↓wr, ↓reduceIte, wq, eq_self, ne_eq, implies_true, oneV, intOp, goI, splice, sBuild, fillE, nilB, isNil, Nat.reduceEqDiff, Nat.reduceAdd, Nat.reduceLT, Nat.reduceLeDiff, Int.reduceNeg, Int.reduceToNat, reduceCtorEq, decide_true, decide_false, B_cfg_Right_1, h1, h6, h62, h63, h64, encG]
    refine GoB.dec (fun hc => ?_) (fun hc => ?_)
    · have hg2 : g.rules[i]? = some (g.rules[i]'(by omega)) := List.getElem?_eq_getElem (by omega)
      rw [drop_at (show i < g.rules.length by omega)] at hi
      have hmem : g.rules[i]'(by omega) ∈ g.rules := List.getElem_mem _
      generalize g.rules[i]'(by omega) = t at hg2 hi hmem
      obtain ⟨⟨hl1, hl2⟩, hp, hr1, hr2⟩ := hg.rule t hmem
      simp only [rulesC] at hi
      simp (disch := omega) only [↓wr, ↓reduceIte, wq, eq_self, ne_eq, implies_true, oneV, intOp, goI, splice, sBuild, fillE, nilB, isNil, Nat.reduceEqDiff, Nat.reduceAdd, Nat.reduceLT, Nat.reduceLeDiff, Int.reduceNeg, Int.reduceToNat, reduceCtorEq, decide_true, decide_false, h1, h6, h62, h63, h64, encR, encI, List.getElem?_map, hg2]
      intro b hb
      repeat' (first | (refine GoB.dec (fun _ => ?_) (fun _ => ?_)) | (refine GoB.eq (fun _ => ?_) (fun _ => ?_)) | (refine GoB.ne (fun _ => ?_) (fun _ => ?_)) | (refine GoB.split (fun _ => ?_) (fun _ => ?_)) | (refine CallG.pure (pc_cwithin _ _ _) (by kernel_rfl) ?_) | (refine CallG.pure (pc_crule g t hg ⟨hr1, hr2⟩) (by kernel_rfl) ?_) | (simp (disch := omega) only [↓wr, ↓reduceIte, wq, eq_self, ne_eq, implies_true, oneV, intOp, goI, splice, sBuild, fillE, nilB, isNil, Nat.reduceEqDiff, Nat.reduceAdd, Nat.reduceLT, Nat.reduceLeDiff, Int.reduceNeg, Int.reduceToNat, reduceCtorEq, decide_true, decide_false, h1, h6, h62, h63, h64, encG, encR, encI, encS, set_set]))
      · rename_i e7 e8
        have e7' : 0 ≤ t.left ∧ t.left ≤ w := by simpa using e7
        rw [e7, e8, Bool.true_and, Bool.true_and] at hi
        have hw : IntKind.wrap .i64 (t.left + 1) = t.left + 1 := wrap64 (by omega) (by omega)
        refine up_next hk (by omega) ⟨_, by split <;> omega, by split <;> (push_cast; omega), hi, h1, ?_, h62, h63, rfl⟩
        show gi (if IntKind.wrap .i64 (t.left + 1) > w then IntKind.wrap .i64 (t.left + 1) else w) = _
        rw [hw]
      · rename_i e7 e8
        rw [e8, Bool.and_false, Bool.false_and] at hi
        exact hpre _ hi.symm
      · rename_i e7
        rw [e7, Bool.false_and, Bool.false_and] at hi
        exact hpre _ hi.symm
    · rw [List.drop_eq_nil_of_le (by omega)] at hi
      simp only [rulesC] at hi
      simp (disch := omega) only [↓wr, ↓reduceIte, wq, eq_self, ne_eq, implies_true, oneV, intOp, goI, splice, sBuild, fillE, nilB, isNil, Nat.reduceEqDiff, Nat.reduceAdd, Nat.reduceLT, Nat.reduceLeDiff, Int.reduceNeg, Int.reduceToNat, reduceCtorEq, decide_true, decide_false, h1, h6, h62, h63, h64, encG, encS]
      exact hpre _ hi.symm
theorem pc_cRightC (g : Gram) (hg : g.Ok) (hs : g.nons.length + g.terms.length ≤ 1000) : PCall Tryz.prog 41 [.agg (encG g)] (gb (rightC g)) := PCall.val (gg_tree g) (mc_cRight g hg hs)

/-! both ways to ask it are one -/
theorem rulesC_L (g : Gram) : ∀ (l : List Rule) (next : Int), rulesC g l next = rulesL g l (next - 1)
  | [], next => by
    simp only [rulesC, rulesL]
    rw [Bool.eq_iff_iff]; simp
  | r :: l, next => by
    simp only [rulesC, rulesL, rulesC_L g l]
    have e1 : (if r.left + 1 > next then r.left + 1 else next) - 1 = if r.left > next - 1 then r.left else next - 1 := by
      split <;> split <;> omega
    have e2 : next - 1 + 1 = next := by omega
    rw [e1, e2]

theorem idxS_spec (s : ByteArray) : ∀ (l : List ByteArray) (i : Int), 0 ≤ i → (idxS s l i < 0 ∧ s ∉ l) ∨ ∃ k : Nat, idxS s l i = i + k ∧ l[k]? = some s ∧ ∀ j < k, l[j]? ≠ some s
  | [], i, h => .inl ⟨by simp [idxS], by simp⟩
  | x :: l, i, h => by
    have hx : strEq x s = true ↔ x = s := by
      unfold strEq
      rw [beq_iff_eq]
      constructor
      · intro e; cases x; cases s; simp at e; simp [e]
      · rintro rfl; rfl
    simp only [idxS]
    by_cases e : x = s
    · rw [if_pos (hx.2 e)]
      exact .inr ⟨0, by simp, by simp [e], by simp⟩
    · rw [if_neg (fun h => e (hx.1 h))]
      rcases idxS_spec s l (i + 1) (by omega) with ⟨h1, h2⟩ | ⟨k, h1, h2, h3⟩
      · exact .inl ⟨h1, by simp [h2, Ne.symm e]⟩
      · refine .inr ⟨k + 1, by rw [h1]; push_cast; omega, by simpa using h2, fun j hj => ?_⟩
        cases j with
        | zero => simp [e]
        | succ j => simpa using h3 j (by omega)

/-- Each text of a list is found at its own place just if each stands once. -/
theorem idx_nodup (l : List ByteArray) : (∀ (k : Nat) (s : ByteArray), l[k]? = some s → idxS s l 0 = k) ↔ l.Nodup := by
  constructor
  · intro h
    rw [List.nodup_iff_pairwise_ne, List.pairwise_iff_getElem]
    intro i j hi hj hij e
    have h1 := h i l[i] (by simp [hi])
    have h2 := h j l[j] (by simp [hj])
    rw [e] at h1
    omega
  · intro hn k s hk
    rcases idxS_spec s l 0 (by omega) with ⟨_, h2⟩ | ⟨j, h1, h2, h3⟩
    · exact absurd (List.mem_of_getElem? hk) h2
    · have hj : j < l.length := by
        rcases Nat.lt_or_ge j l.length with h | h
        · exact h
        · simp [List.getElem?_eq_none h] at h2
      have hk' : k < l.length := by
        rcases Nat.lt_or_ge k l.length with h | h
        · exact h
        · simp [List.getElem?_eq_none h] at hk
      have : j = k := (List.getElem_inj hn).1 (by
        rw [List.getElem?_eq_getElem hj] at h2; rw [List.getElem?_eq_getElem hk'] at hk
        simp at h2 hk; rw [h2, hk])
      rw [h1, this]; simp

theorem bytes_inj {a b : ByteArray} : a.data.toList = b.data.toList ↔ a = b := by
  constructor
  · intro h; cases a; cases b; simp at h; simp [h]
  · rintro rfl; rfl

theorem names_inj {l : List ByteArray} : (names l).Nodup ↔ l.Nodup := by
  unfold names
  rw [List.nodup_iff_pairwise_ne, List.pairwise_map, List.nodup_iff_pairwise_ne]
  constructor
  · exact fun h => h.imp fun h e => h (bytes_inj.2 e)
  · exact fun h => h.imp fun h e => h (bytes_inj.1 e)

end Gv

/-
  May a grammar be: the document's way to ask it and the program's are one.
  Conditions: none.
-/
set_option linter.unusedSimpArgs false
namespace Gv
open Go Go.Proofs

theorem nodup_len {α : Type} [BEq α] [LawfulBEq α] : ∀ (l m : List α), l.Nodup → (∀ x ∈ l, x ∈ m) → l.length ≤ m.length
  | [], m, _, _ => by simp
  | x :: l, m, hn, hs => by
    rw [List.nodup_cons] at hn
    have hx : x ∈ m := hs x (by simp)
    have := nodup_len l (m.erase x) hn.2 (fun y hy => by
      have hne : y ≠ x := by rintro rfl; exact hn.1 hy
      exact (List.mem_erase_of_ne hne).2 (hs y (by simp [hy])))
    rw [List.length_erase_of_mem hx] at this
    have : 0 < m.length := List.length_pos_of_mem hx
    simp only [List.length_cons]
    omega

def upList (n : Nat) : List Int := (List.range n).map fun (k : Nat) => (k : Int) + 1
theorem mem_upList {n : Nat} {x : Int} : x ∈ upList n ↔ 1 ≤ x ∧ x ≤ n := by
  simp only [upList, List.mem_map, List.mem_range]
  constructor
  · rintro ⟨k, hk, rfl⟩; omega
  · rintro ⟨h1, h2⟩; exact ⟨(x - 1).toNat, by omega, by omega⟩
theorem upList_nodup (n : Nat) : (upList n).Nodup := by
  rw [upList, List.nodup_iff_pairwise_ne, List.pairwise_map]
  exact (List.nodup_range (n := n)).imp fun h e => h (by omega)

/-- As many as there are places, each in one of its own: all places are taken. -/
theorem pigeons {l : List Int} {n : Nat} (hn : l.Nodup) (hs : ∀ x ∈ l, 1 ≤ x ∧ x ≤ n) (hl : l.length = n) {x : Int} (h1 : 1 ≤ x) (h2 : x ≤ n) : x ∈ l := by
  refine Classical.byContradiction fun hx => ?_
  have := nodup_len (x :: l) (upList n) (List.nodup_cons.2 ⟨hx, hn⟩) (fun y hy => by
    rw [mem_upList]
    rcases List.mem_cons.1 hy with rfl | hy
    · exact ⟨h1, h2⟩
    · exact hs y hy)
  simp [upList] at this
  omega

/-! the way of a level -/
theorem levelW_set (n : Int) : ∀ (l : List Term) (w : Int), w ≠ 0 → levelW n l w = if (∀ t ∈ l, t.level = n → t.assoc = w) then some w else none
  | [], w, _ => by simp [levelW]
  | t :: r, w, hw => by
    simp only [levelW]
    by_cases ht : t.level = n
    · rw [if_pos ht]
      by_cases ha : w = t.assoc
      · rw [if_neg (by simp [ha]), ← ha, levelW_set n r w hw]
        congr 1
        simp [ht, ha]
      · rw [if_pos ⟨hw, ha⟩, if_neg (fun h => ha (h t (by simp) ht).symm)]
    · rw [if_neg ht, levelW_set n r w hw]
      congr 1
      simp [ht]

theorem levelB_iff (n : Int) : ∀ (l : List Term), (∀ t ∈ l, t.level = n → t.assoc ≠ 0) → (levelB l n = true ↔ ∃ a, (∃ t ∈ l, t.level = n) ∧ ∀ t ∈ l, t.level = n → t.assoc = a)
  | [], _ => by simp [levelB, levelW]
  | t :: r, h => by
    by_cases ht : t.level = n
    · have ha := h t (by simp) ht
      have e : levelB (t :: r) n = match (if (∀ u ∈ r, u.level = n → u.assoc = t.assoc) then some t.assoc else none) with | some w => w != 0 | none => false := by
        simp only [levelB, levelW]
        rw [if_pos ht, if_neg (by simp), levelW_set n r _ ha]
        rfl
      rw [e]
      by_cases hr : ∀ u ∈ r, u.level = n → u.assoc = t.assoc
      · rw [if_pos hr]
        simp only [bne_iff_ne, ne_eq, ha, not_false_eq_true, true_iff]
        refine ⟨t.assoc, ⟨t, by simp, ht⟩, fun u hu hl => ?_⟩
        rcases List.mem_cons.1 hu with rfl | hu
        · rfl
        · exact hr u hu hl
      · rw [if_neg hr]
        simp only [Bool.false_eq_true, false_iff]
        rintro ⟨a, _, h2⟩
        exact hr fun u hu hl => (h2 u (by simp [hu]) hl).trans (h2 t (by simp) ht).symm
    · have ih := levelB_iff n r (fun u hu => h u (by simp [hu]))
      have e : levelB (t :: r) n = levelB r n := by
        simp only [levelB, levelW, if_neg ht]
      rw [e, ih]
      constructor
      · rintro ⟨a, ⟨u, hu, hl⟩, h2⟩
        refine ⟨a, ⟨u, by simp [hu], hl⟩, fun v hv hl => ?_⟩
        rcases List.mem_cons.1 hv with rfl | hv
        · exact absurd hl ht
        · exact h2 v hv hl
      · rintro ⟨a, ⟨u, hu, hl⟩, h2⟩
        rcases List.mem_cons.1 hu with rfl | hu
        · exact absurd hl ht
        · exact ⟨a, ⟨u, hu, hl⟩, fun v hv => h2 v (by simp [hv])⟩

def OneWay (l : List Term) : Prop := ∀ t ∈ l, ∀ u ∈ l, t.level = u.level → t.level ≠ 0 → t.assoc = u.assoc

theorem keys_put {κ β : Type} [BEq κ] [LawfulBEq κ] {k : κ} {v : β} : ∀ {a : List (κ × β)}, (a.map (·.1)).Nodup → ((pput k v a).map (·.1)).Nodup ∧ ∀ x, x ∈ (pput k v a).map (·.1) ↔ x = k ∨ x ∈ a.map (·.1)
  | [], _ => by simp [pput]
  | y :: a, h => by
    simp only [List.map_cons, List.nodup_cons] at h
    obtain ⟨h1, h2⟩ := keys_put (k := k) (v := v) h.2
    simp only [pput]
    by_cases e : k = y.1
    · simp only [e, beq_self_eq_true, if_true, List.map_cons, List.nodup_cons]
      refine ⟨h, fun x => by simp [e]⟩
    · have : (k == y.1) = false := by simp [e]
      rw [this]
      simp only [Bool.false_eq_true, if_false, List.map_cons, List.nodup_cons, List.mem_cons]
      refine ⟨⟨fun hm => ?_, h1⟩, fun x => ?_⟩
      · rcases (h2 _).1 hm with e' | hm
        · exact e e'.symm
        · exact h.1 hm
      · rw [h2]
        constructor
        · rintro (h | h | h) <;> simp [h]
        · rintro (h | h | h) <;> simp [h]

theorem levS_spec : ∀ (l : List Term) (a : List (Int × Int)) (top : Int), (∀ t ∈ l, t.level ≠ 0 → t.assoc ≠ 0) → (∀ n v, pget a n = some v → v ≠ 0) → (a.map (·.1)).Nodup →
    match levS l a top with
    | some (a', top') => OneWay l ∧ (∀ t ∈ l, ∀ v, t.level ≠ 0 → pget a t.level = some v → t.assoc = v) ∧ (a'.map (·.1)).Nodup ∧ (∀ n, n ∈ a'.map (·.1) ↔ n ∈ a.map (·.1) ∨ (n ≠ 0 ∧ ∃ t ∈ l, t.level = n)) ∧
        top ≤ top' ∧ (∀ t ∈ l, t.level ≠ 0 → t.level ≤ top') ∧ (top' = top ∨ ∃ t ∈ l, t.level = top' ∧ t.level ≠ 0)
    | none => ¬ (OneWay l ∧ ∀ t ∈ l, ∀ v, t.level ≠ 0 → pget a t.level = some v → t.assoc = v)
  | [], a, top, _, _, hn => by
    simp only [levS]
    exact ⟨fun t ht => by simp at ht, fun t ht => by simp at ht, hn, fun n => by simp, by omega, fun t ht => by simp at ht, by simp⟩
  | t :: r, a, top, h0, hv, hn => by
    have h0r : ∀ u ∈ r, u.level ≠ 0 → u.assoc ≠ 0 := fun u hu => h0 u (by simp [hu])
    simp only [levS]
    by_cases ht : t.level = 0
    · rw [if_pos ht]
      have ih := levS_spec r a top h0r hv hn
      have one : OneWay (t :: r) ↔ OneWay r := by
        constructor
        · exact fun h u hu w hw => h u (by simp [hu]) w (by simp [hw])
        · intro h u hu w hw e hz
          rcases List.mem_cons.1 hu with rfl | hu
          · exact absurd ht hz
          · rcases List.mem_cons.1 hw with rfl | hw
            · exact absurd (e.trans ht) hz
            · exact h u hu w hw e hz
      have con : (∀ u ∈ t :: r, ∀ v, u.level ≠ 0 → pget a u.level = some v → u.assoc = v) ↔ ∀ u ∈ r, ∀ v, u.level ≠ 0 → pget a u.level = some v → u.assoc = v := by
        simp [ht]
      have mem : ∀ n, (n ≠ 0 ∧ ∃ u ∈ t :: r, u.level = n) ↔ (n ≠ 0 ∧ ∃ u ∈ r, u.level = n) := fun n => by
        constructor
        · rintro ⟨h1, u, hu, rfl⟩
          rcases List.mem_cons.1 hu with rfl | hu
          · exact absurd ht h1
          · exact ⟨h1, u, hu, rfl⟩
        · rintro ⟨h1, u, hu, rfl⟩; exact ⟨h1, u, by simp [hu], rfl⟩
      cases hs : levS r a top with
      | none => rw [hs] at ih; rw [one, con]; exact ih
      | some x =>
        obtain ⟨a', top'⟩ := x
        rw [hs] at ih
        obtain ⟨i1, i2, i3, i4, i5, i6, i7⟩ := ih
        refine ⟨one.2 i1, con.2 i2, i3, fun n => by rw [i4, mem], i5, ?_, ?_⟩
        · intro u hu hz
          rcases List.mem_cons.1 hu with rfl | hu
          · exact absurd ht hz
          · exact i6 u hu hz
        · rcases i7 with h | ⟨u, hu, h⟩
          · exact .inl h
          · exact .inr ⟨u, by simp [hu], h⟩
    · rw [if_neg ht]
      have ha := h0 t (by simp) ht
      by_cases hc : (pget a t.level).getD 0 ≠ 0 ∧ (pget a t.level).getD 0 ≠ t.assoc
      · rw [if_pos hc]
        simp only
        rintro ⟨_, h2⟩
        cases hp : pget a t.level with
        | none => simp [hp] at hc
        | some v =>
          have := h2 t (by simp) v ht hp
          simp [hp] at hc
          exact hc.2 this.symm
      · rw [if_neg hc]
        have hcon : ∀ v, pget a t.level = some v → t.assoc = v := fun v hp => by
          have := hv _ _ hp
          simp [hp] at hc
          exact (hc this).symm
        have hput : ∀ n, pget (pput t.level t.assoc a) n = if n = t.level then some t.assoc else pget a n := fun n => by
          rw [pget_put]; simp
        have hk := keys_put (k := t.level) (v := t.assoc) hn
        have ih := levS_spec r (pput t.level t.assoc a) (if t.level > top then t.level else top) h0r (fun n v hp => by
          rw [hput] at hp
          split at hp
          · simp at hp; rw [← hp]; exact ha
          · exact hv n v hp) hk.1
        have both : (OneWay (t :: r) ∧ ∀ u ∈ t :: r, ∀ v, u.level ≠ 0 → pget a u.level = some v → u.assoc = v) ↔ (OneWay r ∧ ∀ u ∈ r, ∀ v, u.level ≠ 0 → pget (pput t.level t.assoc a) u.level = some v → u.assoc = v) := by
          constructor
          · rintro ⟨h1, h2⟩
            refine ⟨fun u hu w hw => h1 u (by simp [hu]) w (by simp [hw]), fun u hu v hz hp => ?_⟩
            rw [hput] at hp
            split at hp
            · rename_i e
              simp at hp; rw [← hp]
              exact h1 u (by simp [hu]) t (by simp) e hz
            · exact h2 u (by simp [hu]) v hz hp
          · rintro ⟨h1, h2⟩
            have h3 : ∀ u ∈ r, u.level = t.level → u.assoc = t.assoc := fun u hu e => h2 u hu t.assoc (by rw [e]; exact ht) (by rw [hput, if_pos e])
            refine ⟨fun u hu w hw e hz => ?_, fun u hu v hz hp => ?_⟩
            · rcases List.mem_cons.1 hu with e1 | hu2
              · rcases List.mem_cons.1 hw with e2 | hw2
                · rw [e1, e2]
                · rw [e1] at e ⊢
                  exact (h3 w hw2 e.symm).symm
              · rcases List.mem_cons.1 hw with e2 | hw2
                · rw [e2] at e ⊢
                  exact h3 u hu2 e
                · exact h1 u hu2 w hw2 e hz
            · rcases List.mem_cons.1 hu with rfl | hu
              · exact hcon v hp
              · by_cases e : u.level = t.level
                · rw [h3 u hu e]; exact hcon v (by rw [← e]; exact hp)
                · exact h2 u hu v hz (by rw [hput, if_neg e]; exact hp)
        have htop : top ≤ (if t.level > top then t.level else top) ∧ t.level ≤ (if t.level > top then t.level else top) := by split <;> omega
        cases hs : levS r (pput t.level t.assoc a) (if t.level > top then t.level else top) with
        | none => rw [hs] at ih; simp only; rw [both]; exact ih
        | some x =>
          obtain ⟨a', top'⟩ := x
          rw [hs] at ih
          obtain ⟨i1, i2, i3, i4, i5, i6, i7⟩ := ih
          obtain ⟨b1, b2⟩ := both.2 ⟨i1, i2⟩
          refine ⟨b1, b2, i3, fun n => ?_, by omega, ?_, ?_⟩
          · rw [i4, hk.2]
            constructor
            · rintro ((rfl | h) | ⟨h1, u, hu, h⟩)
              · exact .inr ⟨ht, t, by simp, rfl⟩
              · exact .inl h
              · exact .inr ⟨h1, u, by simp [hu], h⟩
            · rintro (h | ⟨h1, u, hu, h⟩)
              · exact .inl (.inr h)
              · rcases List.mem_cons.1 hu with rfl | hu
                · exact .inl (.inl h.symm)
                · exact .inr ⟨h1, u, hu, h⟩
          · intro u hu hz
            rcases List.mem_cons.1 hu with rfl | hu
            · omega
            · exact i6 u hu hz
          · rcases i7 with h | ⟨u, hu, h⟩
            · by_cases e : t.level > top
              · rw [if_pos e] at h; exact .inr ⟨t, by simp, h.symm, ht⟩
              · rw [if_neg e] at h; exact .inl h
            · exact .inr ⟨u, by simp [hu], h⟩

theorem levels_iff (l : List Term) (h : ∀ t ∈ l, termC t = true) : levelsB l = true ↔ ∀ t ∈ l, ∀ n : Int, 1 ≤ n → n ≤ t.level → levelB l n = true := by
  have hb : ∀ t ∈ l, 0 ≤ t.level ∧ (t.level ≠ 0 → t.assoc ≠ 0) := fun t ht => by
    have := h t ht
    simp only [termC, Bool.and_eq_true, decide_eq_true_eq, beq_iff_eq] at this
    refine ⟨this.1.1.1.1.2, fun h1 h2 => ?_⟩
    have e := this.2
    simp [h1, h2] at e
  have hs := levS_spec l [] 0 (fun t ht => (hb t ht).2) (by simp [pget]) (by simp)
  have hL : ∀ n : Int, 1 ≤ n → (levelB l n = true ↔ ∃ a, (∃ t ∈ l, t.level = n) ∧ ∀ t ∈ l, t.level = n → t.assoc = a) := fun n hn => levelB_iff n l (fun t ht e => (hb t ht).2 (by omega))
  unfold levelsB
  cases hx : levS l [] 0 with
  | none =>
    rw [hx] at hs
    simp only [Bool.false_eq_true, false_iff]
    intro hall
    refine hs ⟨fun t ht u hu e hz => ?_, fun t ht v _ hp => by simp [pget] at hp⟩
    have h1 := hb t ht
    obtain ⟨a, _, h2⟩ := (hL t.level (by omega)).1 (hall t ht t.level (by omega) (by omega))
    exact (h2 t ht rfl).trans (h2 u hu e.symm).symm
  | some x =>
    obtain ⟨a, top⟩ := x
    rw [hx] at hs
    obtain ⟨i1, _, i3, i4, i5, i6, i7⟩ := hs
    simp only [beq_iff_eq]
    have hmem : ∀ n, n ∈ a.map (·.1) ↔ n ≠ 0 ∧ ∃ t ∈ l, t.level = n := fun n => by rw [i4]; simp
    have hin : ∀ x ∈ a.map (·.1), 1 ≤ x ∧ x ≤ (top.toNat : Int) := fun x hx => by
      obtain ⟨h1, t, ht, rfl⟩ := (hmem x).1 hx
      have := (hb t ht).1
      have := i6 t ht h1
      omega
    constructor
    · intro hlen t ht n hn1 hn2
      have htop : t.level ≤ top := i6 t ht (by omega)
      have hm := pigeons i3 hin (by simp; omega) hn1 (show n ≤ (top.toNat : Int) by omega)
      obtain ⟨hz, u, hu, rfl⟩ := (hmem n).1 hm
      exact (hL _ hn1).2 ⟨u.assoc, ⟨u, hu, rfl⟩, fun w hw e => i1 w hw u hu e (by omega)⟩
    · intro hall
      have h1 : a.length ≤ top.toNat := by
        have := nodup_len _ (upList top.toNat) i3 (fun x hx => mem_upList.2 (hin x hx))
        simpa [upList] using this
      have h2 : top.toNat ≤ a.length := by
        rcases i7 with e | ⟨t, ht, e, hz⟩
        · subst e; simp
        · have := nodup_len (upList top.toNat) (a.map (·.1)) (upList_nodup _) (fun x hx => by
            rw [mem_upList] at hx
            have := (hb t ht).1
            obtain ⟨_, ⟨u, hu, hl⟩, _⟩ := (hL x hx.1).1 (hall t ht x hx.1 (by omega))
            exact (hmem x).2 ⟨by omega, u, hu, hl⟩)
          simpa [upList] using this
      omega

end Gv

/-
  May a grammar be: the document's way to ask it and the program's are one (the rest).
  Conditions: none.
-/
set_option linter.unusedSimpArgs false
namespace Gv
open Go Go.Proofs

theorem termsL_iff (g : Gram) : ∀ (l : List Term) (i : Int), termsL g l i = true ↔ ∀ (k : Nat) (t : Term), l[k]? = some t → termB g (i + k) t = true
  | [], i => by simp [termsL]
  | t :: r, i => by
    simp only [termsL, Bool.and_eq_true, termsL_iff g r (i + 1)]
    constructor
    · rintro ⟨h1, h2⟩ k u hk
      cases k with
      | zero => simp at hk; subst hk; simpa using h1
      | succ k =>
        have := h2 k u (by simpa using hk)
        rw [show i + ((k + 1 : Nat) : Int) = i + 1 + k by push_cast; omega]; exact this
    · intro h
      refine ⟨by simpa using h 0 t rfl, fun k u hk => ?_⟩
      have := h (k + 1) u (by simpa using hk)
      rw [show i + 1 + (k : Int) = i + ((k + 1 : Nat) : Int) by push_cast; omega]; exact this

theorem nonsL_iff (g : Gram) : ∀ (l : List ByteArray) (i : Int), nonsL g l i = true ↔ ∀ (k : Nat) (s : ByteArray), l[k]? = some s → nonB g (i + k) s = true
  | [], i => by simp [nonsL]
  | t :: r, i => by
    simp only [nonsL, Bool.and_eq_true, nonsL_iff g r (i + 1)]
    constructor
    · rintro ⟨h1, h2⟩ k u hk
      cases k with
      | zero => simp at hk; subst hk; simpa using h1
      | succ k =>
        have := h2 k u (by simpa using hk)
        rw [show i + ((k + 1 : Nat) : Int) = i + 1 + k by push_cast; omega]; exact this
    · intro h
      refine ⟨by simpa using h 0 t rfl, fun k u hk => ?_⟩
      have := h (k + 1) u (by simpa using hk)
      rw [show i + 1 + (k : Int) = i + ((k + 1 : Nat) : Int) by push_cast; omega]; exact this

theorem termI_neg (g : Gram) (s : ByteArray) : termI g s < 0 ↔ s ∉ g.terms.map Term.name := by
  unfold termI
  rcases idxS_spec s (g.terms.map Term.name) 0 (by omega) with ⟨h1, h2⟩ | ⟨k, h1, h2, _⟩
  · exact ⟨fun _ => h2, fun _ => h1⟩
  · constructor
    · intro h; omega
    · intro h; exact absurd (List.mem_of_getElem? h2) h

theorem lvlsB_iff (g : Gram) (t : Term) : lvlsB g t = true ↔ ∀ n : Int, 1 ≤ n → n ≤ t.level → levelB g.terms n = true := by
  simp only [lvlsB, List.all_eq_true, List.mem_range]
  constructor
  · intro h n h1 h2
    have := h (n - 1).toNat (by omega)
    rwa [show (((n - 1).toNat : Nat) : Int) + 1 = n by omega] at this
  · intro h k hk
    exact h _ (by omega) (by omega)

theorem right_same (g : Gram) : rightC g = right09 g := by
  rw [Bool.eq_iff_iff]
  simp only [rightC, right09, terms09, nons09, termsC, Bool.and_eq_true, decide_eq_true_eq, termsL_iff, nonsL_iff, rulesC_L, List.all_eq_true, Bool.not_eq_true', List.any_eq_false, Bool.not_eq_true, names_inj, allNames, List.nodup_append, Int.zero_add, Int.zero_sub, Bool.not_not]
  have hT : (∀ (k : Nat) (t : Term), g.terms[k]? = some t → termB g k t = true) ↔ (∀ t ∈ g.terms, termC t = true) ∧ (g.terms.map Term.name).Nodup ∧ (∀ t ∈ g.terms, lvlsB g t = true) := by
    rw [← idx_nodup]
    constructor
    · intro h
      have h' : ∀ t ∈ g.terms, ∃ k : Nat, g.terms[k]? = some t := fun t ht => List.getElem?_of_mem ht
      refine ⟨fun t ht => ?_, fun k s hk => ?_, fun t ht => ?_⟩
      · obtain ⟨k, hk⟩ := h' t ht
        have := h k t hk
        simp only [termB, termC, Bool.and_eq_true, decide_eq_true_eq] at this ⊢
        simp [this]
      · rw [List.getElem?_map, Option.map_eq_some_iff] at hk
        obtain ⟨t, hk, rfl⟩ := hk
        have := h k t hk
        simp only [termB, Bool.and_eq_true, beq_iff_eq] at this
        exact this.1.1.1.1.1.1.2
      · obtain ⟨k, hk⟩ := h' t ht
        have := h k t hk
        simp only [termB, Bool.and_eq_true] at this
        exact this.2
    · rintro ⟨h1, h2, h3⟩ k t hk
      have hm := List.mem_of_getElem? hk
      have a := h1 t hm
      have b := h2 k t.name (by rw [List.getElem?_map, hk]; rfl)
      have c := h3 t hm
      simp only [termB, termC, termI, Bool.and_eq_true, decide_eq_true_eq] at a ⊢
      simp [a, b, c]
  have hN : (∀ (k : Nat) (s : ByteArray), g.nons[k]? = some s → nonB g k s = true) ↔ (∀ s ∈ g.nons, nameB (bts s) = true) ∧ g.nons.Nodup ∧ (∀ s ∈ g.nons, s ∉ g.terms.map Term.name) := by
    rw [← idx_nodup]
    constructor
    · intro h
      have h' : ∀ t ∈ g.nons, ∃ k : Nat, g.nons[k]? = some t := fun t ht => List.getElem?_of_mem ht
      refine ⟨fun t ht => ?_, fun k s hk => ?_, fun t ht => ?_⟩
      · obtain ⟨k, hk⟩ := h' t ht
        have := h k t hk
        simp only [nonB, Bool.and_eq_true] at this
        exact this.1.1
      · have := h k s hk
        simp only [nonB, nonI, Bool.and_eq_true, beq_iff_eq] at this
        exact this.1.2
      · obtain ⟨k, hk⟩ := h' t ht
        have := h k t hk
        simp only [nonB, Bool.and_eq_true, decide_eq_true_eq] at this
        exact (termI_neg g t).1 this.2
    · rintro ⟨h1, h2, h3⟩ k s hk
      have hm := List.mem_of_getElem? hk
      have a := h1 s hm
      have b := h2 k s hk
      have c := (termI_neg g s).2 (h3 s hm)
      simp [nonB, nonI, a, b, c]
  rw [hT, hN]
  constructor
  · rintro ⟨⟨⟨⟨⟨⟨⟨⟨t1, t2⟩, t3⟩, n1, n2⟩, r1, r2⟩, a1, a2, a3⟩, s1, s2⟩, n3⟩, ru⟩
    have hl := (levels_iff g.terms t1).1 t3
    exact ⟨⟨⟨⟨⟨⟨⟨t2, t1, a2, fun t ht => (lvlsB_iff g t).2 (hl t ht)⟩, ⟨by omega, by omega⟩, fun s hs => by simpa using n3 s hs, a1, fun s hs hm => a3 s hs s hm rfl⟩, by omega⟩, by omega⟩, s1⟩, by omega⟩, ru⟩
  · rintro ⟨⟨⟨⟨⟨⟨⟨t2, t1, a2, t3⟩, ⟨n1, n2⟩, n3, a1, a3⟩, r1⟩, r2⟩, s1⟩, s2⟩, ru⟩
    have hl := (levels_iff g.terms t1).2 (fun t ht => (lvlsB_iff g t).1 (t3 t ht))
    exact ⟨⟨⟨⟨⟨⟨⟨⟨t1, t2⟩, hl⟩, by omega, by omega⟩, by omega, by omega⟩, a1, a2, fun s hs u hu e => a3 s hs (e ▸ hu)⟩, s1, by omega⟩, fun s hs => by simp [n3 s hs]⟩, ru⟩

theorem pc_cRight (g : Gram) (hg : g.Ok) (hs : g.nons.length + g.terms.length ≤ 1000) : PCall Tryz.prog 41 [.agg (encG g)] (gb (right09 g)) := by
  rw [← right_same]; exact pc_cRightC g hg hs

end Gv

/-
  What follows from what: the program's own functions.
  Conditions: lists that are no longer than an int says, numbers that are ints; a grammar that may be.
-/
set_option linter.unusedSimpArgs false
set_option maxRecDepth 100000
namespace Gv
open Go Go.Proofs

/-- A rule whose symbols there are. -/
def RuleIn (n : Nat) (r : Rule) : Prop := In64 r.left ∧ 0 ≤ r.left ∧ r.left < n ∧ r.right.length ≤ 6 ∧ ∀ s ∈ r.right, In64 s ∧ (s < 0 → -1 - s < n)

theorem Gram.Fine.ruleIn {g : Gram} (hg : g.Ok) (h : g.Fine) {r : Rule} (hr : r ∈ g.rules) : RuleIn g.nons.length r :=
  ⟨(hg.rule r hr).1, (h.left r hr).1, (h.left r hr).2, h.right r hr, fun s hs => ⟨(hg.rule r hr).2.2.2 s hs, fun hn => h.neg hr hs hn⟩⟩

/-- What a new list of numbers is. -/
theorem frn_ints {h : Heap} {u : V} {l : List Int} (ho : OwnA h.view u 1 (l.map fun x => [gi x])) : FrN h u (encI l) := FrN.vals (f := Value.int .i64) ho

def nonsOf (l : List Int) : List Int := (l.filter fun s => decide (s < 0)).map fun s => -1 - s

end Gv

/-
  What follows from what, as long as something new does: the program's own functions.
  Conditions: lists that are no longer than an int says, numbers that are ints; a grammar that may be.
-/
set_option linter.unusedSimpArgs false
set_option maxRecDepth 100000
namespace Gv
open Go Go.Proofs

/-! the program's way: what comes of each rule, as long as something new does -/
def markL (is : List Bool) (l : List Int) : List Bool := l.foldl (fun is n => is.set n.toNat true) is
def stepG (comes : Rule → List Bool → List Int) (is : List Bool) (r : Rule) : List Bool := markL is (comes r is)
def roundG (comes : Rule → List Bool → List Int) (rules : List Rule) (is : List Bool) : List Bool := rules.foldl (stepG comes) is

/-- Nothing is taken away. -/
def LeB (a b : List Bool) : Prop := a.length = b.length ∧ ∀ i, a.getD i false = true → b.getD i false = true
theorem LeB.refl (a : List Bool) : LeB a a := ⟨rfl, fun _ h => h⟩
theorem LeB.trans {a b c : List Bool} (h : LeB a b) (k : LeB b c) : LeB a c := ⟨h.1.trans k.1, fun i hi => k.2 i (h.2 i hi)⟩
theorem LeB.set (a : List Bool) (i : Nat) : LeB a (a.set i true) := by
  refine ⟨by simp, fun j h => ?_⟩
  simp only [List.getD_eq_getElem?_getD, List.getElem?_set] at h ⊢
  split
  · split
    · rfl
    · rename_i e h2; rw [← e, List.getElem?_eq_none (by omega)] at h; simp at h
  · exact h
theorem markL_le : ∀ (l : List Int) (is : List Bool), LeB is (markL is l)
  | [], is => .refl _
  | n :: l, is => (LeB.set is n.toNat).trans (markL_le l _)
theorem roundG_le (comes : Rule → List Bool → List Int) : ∀ (rules : List Rule) (is : List Bool), LeB is (roundG comes rules is)
  | [], is => .refl _
  | r :: rs, is => (markL_le _ _).trans (roundG_le comes rs _)

/-- How many are true. -/
def trues (a : List Bool) : Nat := a.countP fun x => x
theorem trues_le (a : List Bool) : trues a ≤ a.length := List.countP_le_length
theorem LeB.trues : ∀ {a b : List Bool}, LeB a b → trues a ≤ trues b ∧ (trues a = trues b → a = b)
  | [], [], _ => ⟨Nat.le_refl _, fun _ => rfl⟩
  | [], _ :: _, h => by simp [LeB] at h
  | _ :: _, [], h => by simp [LeB] at h
  | x :: a, y :: b, h => by
    have hxy : x = true → y = true := fun e => by have := h.2 0 (by simpa using e); simpa using this
    obtain ⟨h1, h2⟩ := LeB.trues (a := a) (b := b) ⟨by simpa using h.1, fun i hi => by have := h.2 (i + 1) (by simpa using hi); simpa using this⟩
    unfold Gv.trues at h1 h2 ⊢
    simp only [List.countP_cons]
    cases x with
    | true =>
      have := hxy rfl; subst this
      simp only [if_true]
      exact ⟨by omega, fun e => by rw [h2 (by omega)]⟩
    | false =>
      cases y with
      | false => simp only [Bool.false_eq_true, if_false]; exact ⟨by omega, fun e => by rw [h2 (by omega)]⟩
      | true => simp only [Bool.false_eq_true, if_false, if_true]; exact ⟨by omega, fun e => by omega⟩

/-- Round by round, till nothing is new. -/
def growG (comes : Rule → List Bool → List Int) (rules : List Rule) : Nat → List Bool → List Bool
  | 0, is => is
  | k + 1, is => if roundG comes rules is = is then is else growG comes rules k (roundG comes rules is)

/-- Behind so many rounds nothing is new. -/
theorem growG_fix (comes : Rule → List Bool → List Int) (rules : List Rule) : ∀ (k : Nat) (is : List Bool), is.length ≤ trues is + k → roundG comes rules (growG comes rules k is) = growG comes rules k is ∧ LeB is (growG comes rules k is)
  | 0, is, h => by
    have h1 := roundG_le comes rules is
    have h2 := trues_le (roundG comes rules is)
    have h3 := h1.trues
    rw [← h1.1] at h2
    have h4 := trues_le is
    exact ⟨(h3.2 (by omega)).symm, .refl _⟩
  | k + 1, is, h => by
    simp only [growG]
    by_cases e : roundG comes rules is = is
    · rw [if_pos e]; exact ⟨e, .refl _⟩
    · rw [if_neg e]
      have h1 := roundG_le comes rules is
      have h3 := h1.trues
      have : trues is < trues (roundG comes rules is) := by
        rcases Nat.lt_or_ge (trues is) (trues (roundG comes rules is)) with h | h
        · exact h
        · exact absurd (h3.2 (by omega)).symm e
      obtain ⟨g1, g2⟩ := growG_fix comes rules k (roundG comes rules is) (by rw [← h1.1]; omega)
      exact ⟨g1, h1.trans g2⟩

end Gv

/-
  Which nonterminals are nullable, productive, reachable: the program's own functions answer as the document's.
  Conditions: lists that are no longer than an int says, numbers that are ints, no more than a thousand names.
-/
set_option linter.unusedSimpArgs false
set_option maxRecDepth 100000
namespace Gv
open Go Go.Proofs

theorem iter_fix {α : Type} {f : α → α} {x : α} (h : f x = x) : ∀ n, iter f n x = x
  | 0 => rfl
  | n + 1 => by rw [iter, h, iter_fix h n]
theorem iter_add {α : Type} (f : α → α) : ∀ (a b : Nat) (x : α), iter f (a + b) x = iter f b (iter f a x)
  | 0, b, x => by rw [Nat.zero_add]; rfl
  | a + 1, b, x => by rw [Nat.add_right_comm, iter, iter, iter_add f a b]

theorem growG_iter (comes : Rule → List Bool → List Int) (rules : List Rule) : ∀ (k : Nat) (is : List Bool), growG comes rules k is = iter (roundG comes rules) k is
  | 0, is => rfl
  | k + 1, is => by
    simp only [growG, iter]
    by_cases e : roundG comes rules is = is
    · rw [if_pos e, e, iter_fix e]
    · rw [if_neg e, growG_iter comes rules k]

/-- As many rounds as there are places come as far as sixteen. -/
theorem growG_rounds (comes : Rule → List Bool → List Int) (rules : List Rule) (is : List Bool) (h : is.length ≤ 16) : growG comes rules 16 is = iter (roundG comes rules) is.length is := by
  have h1 := (growG_fix comes rules is.length is (by omega)).1
  rw [growG_iter] at h1 ⊢
  obtain ⟨m, hm⟩ : ∃ m, 16 = is.length + m := ⟨16 - is.length, by omega⟩
  rw [hm, iter_add, iter_fix h1]

def comesA (t : Bool) (r : Rule) (is : List Bool) : List Int := if allG r.right is t = true then [r.left] else []
def comesR (p : List Bool) (r : Rule) (is : List Bool) : List Int := if (is.getD r.left.toNat false && allG r.right p true) = true then nonsOf r.right else []

theorem round_A (g : Gram) (t : Bool) : roundG (comesA t) g.rules = round11 g t := by
  funext is
  unfold roundG round11
  congr 1
  funext is r
  unfold stepG comesA step11
  split <;> rfl

theorem marks_nons : ∀ (l : List Int) (is : List Bool), markL is (nonsOf l) = l.foldl mark is
  | [], is => rfl
  | s :: l, is => by
    have ih := marks_nons l
    unfold markL nonsOf at ih ⊢
    rw [List.foldl_cons, ← ih]
    unfold mark
    by_cases h : s < 0
    · rw [if_pos h, List.filter_cons_of_pos (by simpa using h)]; rfl
    · rw [if_neg h, List.filter_cons_of_neg (by simpa using h)]

theorem round_R (g : Gram) (p : List Bool) : roundG (comesR p) g.rules = roundR g p := by
  funext is
  unfold roundG roundR
  congr 1
  funext is r
  unfold stepG comesR stepR
  split
  · exact marks_nons _ _
  · rfl

theorem grow_A {g : Gram} (h : right09 g = true) (t : Bool) : growG (comesA t) g.rules 16 (none11 g) = grown09 g t := by
  have hf := right09_fine h
  have hl : (none11 g).length = g.nons.length := by simp [none11]
  have := hf.nons
  rw [growG_rounds _ _ _ (by rw [hl]; exact hf.nons), round_A, hl, grown09, if_pos h]

theorem grow_R {g : Gram} (h : right09 g = true) : growG (comesR (grown09 g true)) g.rules 16 ((none11 g).set g.start.toNat true) = reach09 g := by
  have hf := right09_fine h
  have hl : ((none11 g).set g.start.toNat true).length = g.nons.length := by simp [none11]
  rw [growG_rounds _ _ _ (by rw [hl]; exact hf.nons), round_R, hl, reach09, if_pos h]

structure Gram.Small (g : Gram) : Prop where
  names : g.nons.length + g.terms.length ≤ 1000

theorem reach09_len {g : Gram} (hr : right09 g = true) : (reach09 g).length = g.nons.length := by
  rw [reach09, if_pos hr, iter_len (f := roundR g (grown09 g true)) (fun is => fold_len (fun is x => stepR_len _ is x) g.rules is)]
  simp [none11]

end Gv

/-
  What a grammar is, reduced: in plain terms.
  Conditions: none.
-/
set_option linter.unusedSimpArgs false
namespace Gv
open Go Go.Proofs

def keepR (p q : List Bool) (r : Rule) : Bool := q.getD r.left.toNat false && allG r.right p true
/-- Which rules are kept, by their places. -/
def keptI (p q : List Bool) : List Rule → Int → List Int
  | [], _ => []
  | r :: l, i => if keepR p q r = true then i :: keptI p q l (i + 1) else keptI p q l (i + 1)
def addO (acc : List Int) (r : Rule) : List Int := if r.left ∈ acc then acc else acc ++ [r.left]
/-- Their nonterminals, each once. -/
def ordO (p q : List Bool) (l : List Rule) : List Int := (l.filter (keepR p q)).foldl addO []
def numO (o : List Int) (x : Int) : Int := idxF (fun y => y == x) o 0
def redRule (f : Int → Int) (r : Rule) : Rule := ⟨f r.left, r.right.map fun s => if s < 0 then -1 - f (-1 - s) else s, r.prec⟩
def redG (g : Gram) (f : Int → Int) (p q : List Bool) : Gram :=
  ⟨g.terms, (ordO p q g.rules).map fun x => g.nons.getD x.toNat ⟨#[]⟩, (g.rules.filter (keepR p q)).map (redRule f), f g.start⟩
def noG : Gram := ⟨[], [], [], 0⟩
/-- The grammar, reduced, the places of the rules that are left, the error's number. -/
def reduce09 (g : Gram) : Gram × List Int × Int :=
  if right09 g = true then
    if (grown09 g true).getD g.start.toNat false = true then (redG g (numO (ordO (grown09 g true) (reach09 g) g.rules)) (grown09 g true) (reach09 g), keptI (grown09 g true) (reach09 g) g.rules 0, 0)
    else (noG, [], 9)
  else (noG, [], 1)

theorem reduce09_pos {g : Gram} (hr : right09 g = true) : reduce09 g = if (grown09 g true).getD g.start.toNat false = true then (redG g (numO (ordO (grown09 g true) (reach09 g) g.rules)) (grown09 g true) (reach09 g), keptI (grown09 g true) (reach09 g) g.rules 0, 0) else (noG, [], 9) := by
  rw [reduce09, if_pos hr]

theorem numO_neg {o : List Int} {x : Int} : numO o x < 0 ↔ x ∉ o := by
  have := idxF_any (fun y => y == x) o 0 (by omega)
  unfold numO
  rw [← Int.not_le]
  constructor
  · intro h hx
    have e : (o.any fun y => y == x) = true := List.any_eq_true.2 ⟨x, hx, by simp⟩
    rw [e] at this; exact h (by simpa using this)
  · intro h hx
    have e : (o.any fun y => y == x) = true := by rw [← this]; simpa using hx
    obtain ⟨y, hy, e⟩ := List.any_eq_true.1 e
    simp at e; subst e; exact h hy

theorem idxF_append {α : Type} (p : α → Bool) : ∀ (a b : List α) (i : Int), 0 ≤ i → idxF p (a ++ b) i = if 0 ≤ idxF p a i then idxF p a i else idxF p b (i + a.length)
  | [], b, i, _ => by simp [idxF]
  | x :: a, b, i, h => by
    by_cases hp : p x = true
    · simp [idxF, hp, h]
    · simp only [List.cons_append, idxF, if_neg hp]
      rw [idxF_append p a b (i + 1) (by omega)]
      have : i + 1 + (a.length : Int) = i + (((x :: a).length : Nat) : Int) := by simp; omega
      rw [this]

theorem numO_lt {o : List Int} {x : Int} (h : x ∈ o) : 0 ≤ numO o x ∧ numO o x < o.length := by
  have h0 : ¬ numO o x < 0 := fun e => numO_neg.1 e h
  refine ⟨by omega, ?_⟩
  unfold numO
  have : ∀ (l : List Int) (i : Int), idxF (fun z => z == x) l i < i + l.length ∨ idxF (fun z => z == x) l i = -1 := by
    intro l
    induction l with
    | nil => intro i; right; rfl
    | cons z l ih =>
      intro i
      simp only [idxF]
      split
      · left; simp; omega
      · rcases ih (i + 1) with h | h
        · left; simp at h ⊢; omega
        · right; exact h
  rcases this o 0 with h1 | h1
  · simpa using h1
  · unfold numO at h0; omega

/-! the same numbers, as pairs -/
end Gv

/-
  All that a function owns, in one list: what operations make of it.
  Conditions: none beyond those that each lemma names.
-/
set_option linter.unusedSimpArgs false
namespace Gv
open Go

/-- A list that is owned: the value, the size of its elements, the elements. -/
abbrev Ent := V × Nat × List (List V)

def Owns (H : View) (L : List Ent) : Prop := (∀ x ∈ L, OwnA H x.1 x.2.1 x.2.2) ∧ (L.filterMap fun x => owner x.1).Nodup

theorem Owns.nil {H : View} : Owns H [] := ⟨fun x hx => by simp at hx, by simp⟩
theorem Owns.head {H : View} {x : Ent} {L : List Ent} (h : Owns H (x :: L)) : OwnA H x.1 x.2.1 x.2.2 := h.1 x (by simp)
theorem Owns.tail {H : View} {x : Ent} {L : List Ent} (h : Owns H (x :: L)) : Owns H L := by
  refine ⟨fun y hy => h.1 y (by simp [hy]), ?_⟩
  have := h.2
  simp only [List.filterMap_cons] at this
  split at this
  · exact this
  · exact (List.nodup_cons.1 this).2
theorem Owns.perm {H : View} {L L' : List Ent} (h : Owns H L) (p : L.Perm L') : Owns H L' :=
  ⟨fun x hx => h.1 x (p.mem_iff.2 hx), (p.filterMap _).nodup_iff.1 h.2⟩
theorem perm_at {α : Type} : ∀ (L : List α) (k : Nat) (hk : k < L.length), L.Perm (L[k] :: L.eraseIdx k)
  | x :: L, 0, _ => .refl _
  | x :: L, k + 1, hk => by
    have := perm_at L k (by simpa using hk)
    exact (this.cons x).trans (.swap _ _ _)
theorem Owns.at {H : View} {L : List Ent} (h : Owns H L) (k : Nat) (hk : k < L.length) : Owns H (L[k] :: L.eraseIdx k) :=
  h.perm (perm_at L k hk)
theorem Owns.obj {H : View} {n k sz : Nat} {es : List (List V)} {L : List Ent} (h : Owns H ((.sl n 0 k sz, sz, es) :: L)) (hes : es ≠ []) : H n = .arr sz es ∧ k = es.length := by
  rcases h.head with ⟨e, _⟩ | ⟨m, e, hm⟩
  · exact absurd e hes
  · simp only [V.sl.injEq] at e
    obtain ⟨rfl, _, rfl, _⟩ := e
    exact ⟨hm, rfl⟩
theorem Owns.off {H : View} {x : Ent} {L : List Ent} (h : Owns H (x :: L)) {id : Nat} (hid : owner x.1 = some id) : ∀ y ∈ L, owner y.1 ≠ some id := by
  intro y hy e
  have := h.2
  simp only [List.filterMap_cons, hid, List.nodup_cons, List.mem_filterMap, not_exists, not_and] at this
  exact this.1 y hy e
theorem Owns.live {H : View} {x : Ent} {L : List Ent} (h : Owns H L) (hx : x ∈ L) {id : Nat} (hid : owner x.1 = some id) : H id ≠ .dead := by
  rw [((h.1 x hx).live hid).1]; simp
theorem Owns.keep {H H' : View} {L : List Ent} (h : Owns H L) (hk : ∀ x ∈ L, ∀ id, owner x.1 = some id → H' id = H id) : Owns H' L :=
  ⟨fun x hx => (h.1 x hx).keep (hk x hx), h.2⟩

/-- Something new. -/
theorem Owns.new {H : View} {L : List Ent} (h : Owns H L) {n : Nat} (hn : H n = .dead) (sz : Nat) (es : List (List V)) : Owns (H.set n (.arr sz es)) ((.sl n 0 es.length sz, sz, es) :: L) := by
  refine ⟨fun x hx => ?_, ?_⟩
  · rcases List.mem_cons.1 hx with rfl | hx
    · exact .new
    · exact (h.1 x hx).fresh hn
  · simp only [List.filterMap_cons, owner, List.nodup_cons, List.mem_filterMap, not_exists, not_and]
    exact ⟨fun x hx e => h.live hx e hn, h.2⟩
theorem Owns.come {H H' : View} {L : List Ent} (h : Owns H L) {u : V} {sz : Nat} {es : List (List V)} (ho : OwnA H' u sz es) (hf : Fresh H H' u) : Owns H' ((u, sz, es) :: L) := by
  refine ⟨fun x hx => ?_, ?_⟩
  · rcases List.mem_cons.1 hx with rfl | hx
    · exact ho
    · exact (h.1 x hx).fresh' hf
  · cases hu : owner u with
    | none => simp only [List.filterMap_cons, hu]; exact h.2
    | some id =>
      simp only [List.filterMap_cons, hu, List.nodup_cons, List.mem_filterMap, not_exists, not_and]
      exact ⟨fun x hx e => (hf id (h.live hx e)).2 hu, h.2⟩
theorem Owns.fresh {H : View} {L : List Ent} (h : Owns H L) {n : Nat} (hn : H n = .dead) {o : AObj} : Owns (H.set n o) L :=
  ⟨fun x hx => (h.1 x hx).fresh hn, h.2⟩

/-- The first one is written. -/
theorem Owns.put {H : View} {L : List Ent} {n k sz : Nat} {es es' : List (List V)} (h : Owns H ((.sl n 0 k sz, sz, es) :: L)) (hl : es'.length = es.length) (hk : k = es.length) : Owns (H.set n (.arr sz es')) ((.sl n 0 k sz, sz, es') :: L) := by
  refine ⟨fun x hx => ?_, by simpa [List.filterMap_cons, owner] using h.2⟩
  rcases List.mem_cons.1 hx with rfl | hx
  · exact .inr ⟨n, by simp [hl, hk], by simp [View.set]⟩
  · exact (h.1 x (by simp [hx])).other (h.off rfl x hx)
/-- Another object than the first's is written that is none of the list's. -/
theorem Owns.left {H H' : View} {L : List Ent} {u u' : V} {sz : Nat} {es es' : List (List V)} (h : Owns H ((u, sz, es) :: L)) (ho : OwnA H' u' sz es') (hl : Left H H' u u') : Owns H' ((u', sz, es') :: L) := by
  have hoff : ∀ x ∈ L, ∀ id, owner x.1 = some id → owner u ≠ some id := fun x hx id hid hu => h.off hu x hx hid
  refine ⟨fun x hx => ?_, ?_⟩
  · rcases List.mem_cons.1 hx with rfl | hx
    · exact ho
    · exact (h.1 x (by simp [hx])).left hl (hoff x hx)
  · have ht := h.tail.2
    cases hu : owner u' with
    | none => simp only [List.filterMap_cons, hu]; exact ht
    | some id =>
      simp only [List.filterMap_cons, hu, List.nodup_cons, List.mem_filterMap, not_exists, not_and]
      refine ⟨fun x hx e => ?_, ht⟩
      have hlv := h.tail.live hx e
      exact (hl id hlv (hoff x hx id e)).2 hu

/-- Appending to the first one. -/
theorem goApp_owns {sz bytes : Nat} {u : V} {es xs : List (List V)} {L : List Ent} {H : View} {K : V → View → Prop} {w : Veil (H, K)} (ho : Owns H ((u, sz, es) :: L)) (hok : (xs.all fun e => e.length == sz && e.all cellOk) = true)
    (hl : (es.length + xs.length) * bytes < limit) (hl2 : es.length + xs.length < limit) (hk : ∀ u' H', Owns H' ((u', sz, es ++ xs) :: L) → Left H H' u u' → K u' H') : GoApp sz bytes u xs H K w :=
  goApp_all ho.head hok hl hl2 fun u' H' h1 h2 => hk u' H' (ho.left h1 h2) h2

/-! writing into a box of one element -/
theorem Owns.emp {H : View} {L : List Ent} (h : Owns H L) {k sz : Nat} : Owns H ((.emp k, sz, []) :: L) := by
  refine ⟨fun x hx => ?_, by simpa [List.filterMap_cons, owner] using h.2⟩
  rcases List.mem_cons.1 hx with rfl | hx
  · exact .nil
  · exact h.1 x hx
theorem OwnA.cells {H : View} {u : V} {sz : Nat} {es : List (List V)} (h : OwnA H u sz es) : V.cells u = [u] := by
  rcases h with ⟨rfl, k, rfl⟩ | ⟨n, rfl, _⟩ <;> rfl
theorem OwnA.cok {H : View} {u : V} {sz : Nat} {es : List (List V)} (h : OwnA H u sz es) : cellOk u = true := by
  rcases h with ⟨rfl, k, rfl⟩ | ⟨n, rfl, _⟩ <;> rfl
theorem Owns.ne {H : View} {n k sz m : Nat} {es : List (List V)} {L : List Ent} (h : Owns H ((.sl n 0 k sz, sz, es) :: L)) (hes : es ≠ []) (hm : H m = .dead) : n ≠ m := by
  rintro rfl; rw [(h.obj hes).1] at hm; simp at hm

theorem rot3 {α : Type} {a b c : α} {l : List α} : (a :: b :: c :: l).Perm (b :: c :: a :: l) := (List.Perm.swap _ _ _).trans ((List.Perm.swap _ _ _).cons _)

theorem Owns.own {H : View} {L : List Ent} (h : Owns H L) (i : Nat) {u : V} {sz : Nat} {es : List (List V)} (hi : L[i]? = some (u, sz, es)) : OwnA H u sz es := h.1 _ (List.mem_of_getElem? hi)
theorem Owns.is {H : View} {L : List Ent} (h : Owns H L) (i : Nat) {n k sz : Nat} {es : List (List V)} (hi : L[i]? = some (.sl n 0 k sz, sz, es)) (hes : 0 < es.length) : H n = .arr sz es := by
  obtain ⟨m, e, hm⟩ := (h.own i hi).sl hes
  simp only [V.sl.injEq] at e
  rw [e.1]; exact hm

/-! beside maps -/
theorem Left.map {H H' : View} {u u' : V} {b c : Nat} {es : List (V × V × Nat)} {sz : Nat} {xs : List (List V)} (hl : Left H H' u u') (ho : OwnA H u sz xs) (hb : H b = .map es c) : H' b = .map es c := by
  rw [(hl b (by rw [hb]; simp) (fun e => by have := (ho.live e).1; rw [hb] at this; simp at this)).1, hb]
end Gv

/-
  What a grammar is, reduced: the document's function.
  Conditions: lists that are no longer than an int says, numbers that are ints.
-/
set_option linter.unusedSimpArgs false
set_option maxRecDepth 100000
namespace Gv
open Go Go.Proofs

abbrev intsE (l : List Int) : List (List V) := l.map fun x => [gi x]
end Gv

/-
  What a grammar is, reduced: the program's own function.
  Conditions: lists that are no longer than an int says, numbers that are ints, no more than a thousand names.
-/
set_option linter.unusedSimpArgs false
set_option maxRecDepth 100000
namespace Gv
open Go Go.Proofs

end Gv

/-
  What a grammar is, reduced: what is looked up is there.
  Conditions: none.
-/
set_option linter.unusedSimpArgs false
namespace Gv
open Go Go.Proofs

theorem allG_le {l : List Int} {a b : List Bool} {t : Bool} (h : LeB a b) (k : allG l a t = true) : allG l b t = true := by
  simp only [allG, List.all_eq_true] at k ⊢
  intro s hs
  have := k s hs
  by_cases h0 : 0 ≤ s
  · rw [if_pos h0] at this ⊢; exact this
  · rw [if_neg h0] at this ⊢; exact h.2 _ this

theorem LeB.anti {a b : List Bool} (h : LeB a b) (k : LeB b a) : a = b := by
  have h1 := h.trues
  have h2 := k.trues
  exact h1.2 (by omega)

/-- Each that is there comes of a rule. -/
def Just (g : Gram) (t : Bool) (is : List Bool) : Prop := ∀ i, is.getD i false = true → ∃ r ∈ g.rules, r.left.toNat = i ∧ allG r.right is t = true

theorem Just.step {g : Gram} {t : Bool} {is : List Bool} {r : Rule} (h : Just g t is) (hr : r ∈ g.rules) : Just g t (step11 t is r) := by
  have hle : LeB is (step11 t is r) := by
    unfold step11
    split
    · exact .set _ _
    · exact .refl _
  intro i hi
  by_cases e : is.getD i false = true
  · obtain ⟨r', h1, h2, h3⟩ := h i e
    exact ⟨r', h1, h2, allG_le hle h3⟩
  · unfold step11 at hi
    by_cases ha : allG r.right is t = true
    · rw [if_pos ha] at hi
      have : r.left.toNat = i := by
        refine Classical.byContradiction fun hne => e ?_
        simp only [List.getD_eq_getElem?_getD, List.getElem?_set, if_neg hne] at hi ⊢
        exact hi
      exact ⟨r, hr, this, allG_le hle ha⟩
    · rw [if_neg ha] at hi; exact absurd hi e

theorem Just.fold {g : Gram} {t : Bool} : ∀ (l : List Rule) (is : List Bool), (∀ r ∈ l, r ∈ g.rules) → Just g t is → Just g t (l.foldl (step11 t) is)
  | [], is, _, h => h
  | r :: l, is, hl, h => Just.fold l _ (fun x hx => hl x (by simp [hx])) (h.step (hl r (by simp)))

theorem Just.iter {g : Gram} {t : Bool} : ∀ (n : Nat) (is : List Bool), Just g t is → Just g t (iter (round11 g t) n is)
  | 0, _, h => h
  | n + 1, is, h => Just.iter n _ (Just.fold g.rules is (fun _ h => h) h)

theorem mark_le (is : List Bool) (s : Int) : LeB is (mark is s) := by
  unfold mark
  split
  · exact .set _ _
  · exact .refl _
theorem marks_le : ∀ (l : List Int) (is : List Bool), LeB is (l.foldl mark is)
  | [], is => .refl _
  | s :: l, is => (mark_le is s).trans (marks_le l _)
theorem stepR_le (p is : List Bool) (r : Rule) : LeB is (stepR p is r) := by
  unfold stepR
  split
  · exact marks_le _ _
  · exact .refl _
theorem foldR_le (p : List Bool) : ∀ (l : List Rule) (is : List Bool), LeB is (l.foldl (stepR p) is)
  | [], is => .refl _
  | r :: l, is => (stepR_le p is r).trans (foldR_le p l _)

theorem fixR_step {p : List Bool} : ∀ {l : List Rule} {is : List Bool}, l.foldl (stepR p) is = is → ∀ r ∈ l, stepR p is r = is
  | [], _, _, _, h => by simp at h
  | r :: l, is, h, x, hx => by
    rw [List.foldl_cons] at h
    have h1 := foldR_le p l (stepR p is r)
    rw [h] at h1
    have h2 := (h1.anti (stepR_le p is r))
    rcases List.mem_cons.1 hx with rfl | hx
    · exact h2
    · rw [h2] at h; exact fixR_step h x hx
theorem fixM_step : ∀ {l : List Int} {is : List Bool}, l.foldl mark is = is → ∀ s ∈ l, mark is s = is
  | [], _, _, _, h => by simp at h
  | r :: l, is, h, x, hx => by
    rw [List.foldl_cons] at h
    have h1 := marks_le l (mark is r)
    rw [h] at h1
    have h2 := (h1.anti (mark_le is r))
    rcases List.mem_cons.1 hx with rfl | hx
    · exact h2
    · rw [h2] at h; exact fixM_step h x hx

theorem reach_fix {g : Gram} (hr : right09 g = true) : roundR g (grown09 g true) (reach09 g) = reach09 g ∧ LeB ((none11 g).set g.start.toNat true) (reach09 g) := by
  have hf := right09_fine hr
  have h := growG_fix (comesR (grown09 g true)) g.rules 16 ((none11 g).set g.start.toNat true) (by have := hf.nons; simp [none11]; omega)
  rw [round_R, grow_R hr] at h
  exact h

theorem reach_start {g : Gram} (hr : right09 g = true) : (reach09 g).getD g.start.toNat false = true := by
  have hf := right09_fine hr
  refine (reach_fix hr).2.2 _ ?_
  have h3 := hf.start0
  have h4 := hf.start
  simp only [List.getD_eq_getElem?_getD]
  rw [List.getElem?_set_self (by simp [none11]; omega)]
  rfl

theorem reach_next {g : Gram} (hr : right09 g = true) {r : Rule} (hm : r ∈ g.rules) (hk : keepR (grown09 g true) (reach09 g) r = true) {s : Int} (hs : s ∈ r.right) (hn : s < 0) : (reach09 g).getD (-1 - s).toNat false = true := by
  have hf := right09_fine hr
  have h1 := fixR_step (reach_fix hr).1 r hm
  unfold stepR at h1
  rw [keepR] at hk
  rw [if_pos hk] at h1
  have h2 := fixM_step h1 s hs
  unfold mark at h2
  rw [if_pos hn] at h2
  rw [← h2]
  have hl := reach09_len hr
  have := hf.neg hm hs hn
  simp only [List.getD_eq_getElem?_getD]
  rw [List.getElem?_set_self (by omega)]
  rfl

end Gv

/-
  Structs are equal if their fields are.
  Conditions: the fields are numbers or strings.
-/
set_option linter.unusedSimpArgs false
namespace Gv
open Go

/-- Field by field. -/
inductive FieldsEq (P : Program) (d : Nat) (xs ys : Array Value) : List Field → Bool → Prop
  | nil : FieldsEq P d xs ys [] true
  | str (f : Field) (l : List Field) (c : Bool) (a b : ByteArray) : (f.name ≠ "_") → P.underlying f.type = some .string → xs[f.offset]? = some (.string a) → ys[f.offset]? = some (.string b) → FieldsEq P d xs ys l c → FieldsEq P d xs ys (f :: l) (a == b && c)
  | int (f : Field) (l : List Field) (c : Bool) (k : IntKind) (a b : Int) : (f.name ≠ "_") → P.underlying f.type = some (.int k) → xs[f.offset]? = some (.int k a) → ys[f.offset]? = some (.int k b) → FieldsEq P d xs ys l c → FieldsEq P d xs ys (f :: l) (a == b && c)

end Gv

/-
  Are two lists, two grammars the same: what the functions answer.
  Conditions: lists that are no longer than an int says, numbers that are ints.
-/
set_option linter.unusedSimpArgs false
set_option maxRecDepth 100000
namespace Gv
open Go Go.Proofs

instance : DecidableEq Term := fun a b => decidable_of_iff (a.name = b.name ∧ a.level = b.level ∧ a.assoc = b.assoc) (by cases a; cases b; simp)
instance : DecidableEq Rule := fun a b => decidable_of_iff (a.left = b.left ∧ a.prec = b.prec ∧ a.right = b.right) (by cases a; cases b; simp [and_comm])
instance : DecidableEq Gram := fun a b => decidable_of_iff (a.terms = b.terms ∧ a.nons = b.nons ∧ a.rules = b.rules ∧ a.start = b.start) (by cases a; cases b; simp)

end Gv

/-
  Is a grammar reduced: what both functions answer.
  Conditions: lists that are no longer than an int says, numbers that are ints, no more than a thousand names.
-/
set_option linter.unusedSimpArgs false
set_option maxRecDepth 100000
namespace Gv
open Go Go.Proofs

end Gv
