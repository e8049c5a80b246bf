/-
  Part 5 of the proof: what the machine does and what the functions answer.
  Conditions: those that each lemma names.
-/
import Derived.Test.YtfcbldapbbhliaaGreatSGzGD
set_option linter.unusedSimpArgs false
set_option linter.unusedVariables false

/-
  Grammars as the program has them; the simple questions about them.
  Conditions: lists that are no longer than an int says, numbers that are ints.
-/
set_option linter.unusedSimpArgs false
set_option maxRecDepth 100000
namespace Gv
open Go Go.Proofs

structure Term where
  name : ByteArray
  level : Int
  assoc : Int
structure Rule where
  left : Int
  right : List Int
  prec : Int
structure Gram where
  terms : List Term
  nons : List ByteArray
  rules : List Rule
  start : Int
instance : Inhabited Term := ⟨⟨.empty, 0, 0⟩⟩
instance : Inhabited Rule := ⟨⟨0, [], 0⟩⟩

def encT (t : Term) : List V := [gs t.name, gi t.level, gi t.assoc]
def encR (r : Rule) : List V := [gi r.left, encI r.right, gi r.prec]
def encS (l : List ByteArray) : V := .fro (l.map fun s => [gs s])
def encG (g : Gram) : List V := [.fro (g.terms.map encT), encS g.nons, .fro (g.rules.map encR), gi g.start]

theorem tree_fro {α : Type} (l : List α) (f : α → List V) (h : ∀ x ∈ l, ∀ v ∈ f x, Tree v) : Tree (.fro (l.map f)) := by
  refine .fro _ fun i j hi hj => ?_
  simp only [List.length_map] at hi
  have e : (l.map f).getD i [] = f l[i] := by simp [List.getD_eq_getElem?_getD, hi]
  rw [e] at hj ⊢
  have e2 : (f l[i]).getD j .any = (f l[i])[j] := by simp [List.getD_eq_getElem?_getD, hj]
  rw [e2]
  exact h _ (List.getElem_mem _) _ (List.getElem_mem _)

theorem tree_agg (cs : List V) (h : ∀ v ∈ cs, Tree v) : Tree (.agg cs) := by
  refine .agg _ fun i hi => ?_
  have e2 : cs.getD i .any = cs[i] := by simp [List.getD_eq_getElem?_getD, hi]
  rw [e2]; exact h _ (List.getElem_mem _)

theorem encS_tree (l : List ByteArray) : Tree (encS l) := tree_fro _ _ fun x _ v hv => by simp at hv; subst hv; exact .val _
theorem encT_tree (t : Term) : ∀ v ∈ encT t, Tree v := by intro v hv; simp [encT] at hv; rcases hv with rfl | rfl | rfl <;> exact .val _
theorem encR_tree (r : Rule) : ∀ v ∈ encR r, Tree v := by
  intro v hv; simp [encR] at hv; rcases hv with rfl | rfl | rfl
  · exact .val _
  · exact encI_tree _
  · exact .val _
theorem encG_tree (g : Gram) : ∀ v ∈ encG g, Tree v := by
  intro v hv; simp [encG] at hv; rcases hv with rfl | rfl | rfl | rfl
  · exact tree_fro _ _ fun x _ => encT_tree x
  · exact encS_tree _
  · exact tree_fro _ _ fun x _ => encR_tree x
  · exact .val _

def In64 (x : Int) : Prop := -9223372036854775808 ≤ x ∧ x ≤ 9223372036854775807

/-- A grammar as Go has one: its lists are no longer than an int says, its numbers are ints. -/
structure Gram.Ok (g : Gram) : Prop where
  terms : Short g.terms
  nons : Short g.nons
  rules : Short g.rules
  start : In64 g.start
  term : ∀ t ∈ g.terms, In64 t.level ∧ In64 t.assoc
  rule : ∀ r ∈ g.rules, In64 r.left ∧ In64 r.prec ∧ Short r.right ∧ ∀ x ∈ r.right, In64 x

def hasG (g : Gram) (s : Int) : Bool := if 0 ≤ s then decide (s < g.terms.length) else decide (-1 - s < g.nons.length)

def S_gerundref09_Has : SF := ⟨.seq (.region false [⟨none, [((some 2), .op (.frz (.tmp 0))), ((some 4), .op (.mov (.val (.val (.bool false)))))]⟩]) <|
  .seq (.seq (.region false [⟨none, [((some 5), .op (.mov (.tmp 1))), ((some 6), .op (.arith .geq (.tmp 5) (.val (.val (.int .i64 0)))))]⟩]) <|
  .cond (.tmp 6) (.seq (.region false [⟨none, [((some 7), .op (.mov (.tmp 1))), ((some 8), .op (.addr 0 (.tmp 2))), ((some 9), .op (.load none (.tmp 8))), ((some 10), .op (.len (.tmp 9))), ((some 11), .op (.arith .lss (.tmp 7) (.tmp 10))), ((some 4), .op (.mov (.tmp 11)))]⟩]) <|
  .ret) (.skip)) <|
  .seq (.region false [⟨none, [((some 12), .op (.mov (.tmp 1))), ((some 13), .op (.arith .sub (.val (.val (.int .i64 (-1)))) (.tmp 12))), ((some 14), .op (.addr 1 (.tmp 2))), ((some 15), .op (.load none (.tmp 14))), ((some 16), .op (.len (.tmp 15))), ((some 17), .op (.arith .lss (.tmp 13) (.tmp 16))), ((some 4), .op (.mov (.tmp 17)))]⟩]) <|
  .ret,
  [.tmp 4], 18⟩
theorem S_gerundref09_Has_ok : compF Tryz.prog 30 [2] = some S_gerundref09_Has := by kernel_rfl

theorem mc_Has (g : Gram) (s : Int) (hs : In64 s) (H : View) : MCall Tryz.prog 30 [.agg (encG g), gi s] H fun r H' => r = gb (hasG g s) ∧ H' = H := by
  refine MCall.of mixed S_gerundref09_Has_ok ?_
  obtain ⟨h1, h2⟩ := hs
  simp (disch := omega) only [↓wr, ↓reduceIte, wq, eq_self, ne_eq, implies_true, oneV, intOp, goI, splice, sBuild, fillE, nilB, isNil, Nat.reduceEqDiff, Nat.reduceAdd, Nat.reduceLT, Nat.reduceLeDiff, Int.reduceNeg, Int.reduceToNat, reduceCtorEq, decide_true, decide_false, S_gerundref09_Has, encG, encS]
  refine GoB.dec (fun h => ?_) (fun h => ?_)
  · simp (disch := omega) only [↓wr, ↓reduceIte, wq, eq_self, ne_eq, implies_true, oneV, intOp, goI, splice, sBuild, fillE, nilB, isNil, Nat.reduceEqDiff, Nat.reduceAdd, Nat.reduceLT, Nat.reduceLeDiff, Int.reduceNeg, Int.reduceToNat, reduceCtorEq, decide_true, decide_false]
    simp [hasG, show (0 : Int) ≤ s from h]
  · simp (disch := omega) only [↓wr, ↓reduceIte, wq, eq_self, ne_eq, implies_true, oneV, intOp, goI, splice, sBuild, fillE, nilB, isNil, Nat.reduceEqDiff, Nat.reduceAdd, Nat.reduceLT, Nat.reduceLeDiff, Int.reduceNeg, Int.reduceToNat, reduceCtorEq, decide_true, decide_false]
    simp [hasG, show ¬ (0 : Int) ≤ s from h]

theorem pc_Has (g : Gram) (s : Int) (hs : In64 s) : PCall Tryz.prog 30 [.agg (encG g), gi s] (gb (hasG g s)) :=
  PCall.of (by
    intro v hv; simp at hv
    rcases hv with rfl | rfl
    · exact tree_agg _ (encG_tree g)
    · exact .val _) ((mc_Has g s hs _).mono fun r H' h h' _ => by rw [h.1]; exact .tree _ (.val _))

def greatG (g : Gram) : Bool := decide (40 < g.terms.length) || decide (40 < g.nons.length) || decide (60 < g.rules.length) || g.rules.any fun r => decide (20 < r.right.length)

def B_gerundref09_Great_0 : SC :=
  .seq (.seq (.region false [⟨none, [((some 20), .op (.mov (.tmp 3))), ((some 21), .op (.addr 2 (.tmp 1))), ((some 22), .op (.load none (.tmp 21))), ((some 23), .op (.len (.tmp 22))), ((some 24), .op (.arith .lss (.tmp 20) (.tmp 23)))]⟩]) <|
  .cond (.tmp 24) (.skip) (.exit 0)) <|
  .seq (.block 1 (.seq (.region false [⟨none, [((some 27), .op (.addr 2 (.tmp 1))), ((some 28), .op (.load none (.tmp 27))), ((some 29), .op (.mov (.tmp 3))), ((some 30), .op (.idx 3 (.tmp 28) (.tmp 29))), ((some 31), .op (.addr 1 (.tmp 30))), ((some 32), .op (.load none (.tmp 31))), ((some 33), .op (.len (.tmp 32))), ((some 34), .op (.arith .gtr (.tmp 33) (.val (.val (.int .i64 20)))))]⟩]) <|
  .cond (.tmp 34) (.seq (.region false [⟨none, [((some 2), .op (.mov (.val (.val (.bool true)))))]⟩]) <|
  .ret) (.skip))) <|
  .region false [⟨none, [((some 25), .op (.mov (.tmp 3))), ((some 26), .op (.arith .add (.tmp 25) (.val (.val (.int .i64 1))))), ((some 3), .op (.mov (.tmp 26)))]⟩]
def S_gerundref09_Great : SF := ⟨.seq (.region false [⟨none, [((some 1), .op (.frz (.tmp 0))), ((some 2), .op (.mov (.val (.val (.bool false)))))]⟩]) <|
  .seq (.seq (.region false [⟨none, [((some 4), .op (.addr 0 (.tmp 1))), ((some 5), .op (.load none (.tmp 4))), ((some 6), .op (.len (.tmp 5))), ((some 7), .op (.arith .gtr (.tmp 6) (.val (.val (.int .i64 40))))), ((some 8), .op (.mov (.tmp 7)))]⟩, ⟨(some (8, false)), [((some 9), .op (.addr 1 (.tmp 1))), ((some 10), .op (.load none (.tmp 9))), ((some 11), .op (.len (.tmp 10))), ((some 12), .op (.arith .gtr (.tmp 11) (.val (.val (.int .i64 40)))))]⟩, ⟨none, [((some 13), .op (.pick (.tmp 8) (.val (.val (.bool true))) (.tmp 12))), ((some 14), .op (.mov (.tmp 13)))]⟩, ⟨(some (14, false)), [((some 15), .op (.addr 2 (.tmp 1))), ((some 16), .op (.load none (.tmp 15))), ((some 17), .op (.len (.tmp 16))), ((some 18), .op (.arith .gtr (.tmp 17) (.val (.val (.int .i64 60)))))]⟩, ⟨none, [((some 19), .op (.pick (.tmp 14) (.val (.val (.bool true))) (.tmp 18)))]⟩]) <|
  .cond (.tmp 19) (.seq (.region false [⟨none, [((some 2), .op (.mov (.val (.val (.bool true)))))]⟩]) <|
  .ret) (.skip)) <|
  .seq (.seq (.region false [⟨none, [((some 3), .op (.mov (.val (.val (.int .i64 0)))))]⟩]) <|
  .block 0 (.loop B_gerundref09_Great_0)) <|
  .seq (.region false [⟨none, [((some 2), .op (.mov (.val (.val (.bool false)))))]⟩]) <|
  .ret,
  [.tmp 2], 35⟩
theorem S_gerundref09_Great_ok : compF Tryz.prog 13 [1] = some S_gerundref09_Great := by kernel_rfl

theorem mc_Great (g : Gram) (H : View) : MCall Tryz.prog 13 [.agg (encG g)] H fun r H' => r = gb (greatG g) ∧ H' = H := by
  refine MCall.of mixed S_gerundref09_Great_ok ?_
  simp (disch := omega) only [↓wr, ↓reduceIte, wq, eq_self, ne_eq, implies_true, oneV, intOp, goI, splice, sBuild, fillE, nilB, isNil, Nat.reduceEqDiff, Nat.reduceAdd, Nat.reduceLT, Nat.reduceLeDiff, Int.reduceNeg, Int.reduceToNat, reduceCtorEq, decide_true, decide_false, S_gerundref09_Great, encG, encS]
  refine GoB.dec (fun h1 => ?_) (fun h1 => ?_)
  · simp (disch := omega) only [↓wr, ↓reduceIte, wq, eq_self, ne_eq, implies_true, oneV, intOp, goI, splice, sBuild, fillE, nilB, isNil, Nat.reduceEqDiff, Nat.reduceAdd, Nat.reduceLT, Nat.reduceLeDiff, Int.reduceNeg, Int.reduceToNat, reduceCtorEq, decide_true, decide_false]
    simp [greatG, show 40 < g.terms.length by omega]
  · simp (disch := omega) only [↓wr, ↓reduceIte, wq, eq_self, ne_eq, implies_true, oneV, intOp, goI, splice, sBuild, fillE, nilB, isNil, Nat.reduceEqDiff, Nat.reduceAdd, Nat.reduceLT, Nat.reduceLeDiff, Int.reduceNeg, Int.reduceToNat, reduceCtorEq, decide_true, decide_false]
    refine GoB.dec (fun h2 => ?_) (fun h2 => ?_)
    · simp (disch := omega) only [↓wr, ↓reduceIte, wq, eq_self, ne_eq, implies_true, oneV, intOp, goI, splice, sBuild, fillE, nilB, isNil, Nat.reduceEqDiff, Nat.reduceAdd, Nat.reduceLT, Nat.reduceLeDiff, Int.reduceNeg, Int.reduceToNat, reduceCtorEq, decide_true, decide_false]
      simp [greatG, show 40 < g.nons.length by omega]
    · simp (disch := omega) only [↓wr, ↓reduceIte, wq, eq_self, ne_eq, implies_true, oneV, intOp, goI, splice, sBuild, fillE, nilB, isNil, Nat.reduceEqDiff, Nat.reduceAdd, Nat.reduceLT, Nat.reduceLeDiff, Int.reduceNeg, Int.reduceToNat, reduceCtorEq, decide_true, decide_false]
      refine GoB.dec (fun h3 => ?_) (fun h3 => ?_)
      · simp (disch := omega) only [↓wr, ↓reduceIte, wq, eq_self, ne_eq, implies_true, oneV, intOp, goI, splice, sBuild, fillE, nilB, isNil, Nat.reduceEqDiff, Nat.reduceAdd, Nat.reduceLT, Nat.reduceLeDiff, Int.reduceNeg, Int.reduceToNat, reduceCtorEq, decide_true, decide_false]
        simp [greatG, show 60 < g.rules.length by omega]
      · simp (disch := omega) only [↓wr, ↓reduceIte, wq, eq_self, ne_eq, implies_true, oneV, intOp, goI, splice, sBuild, fillE, nilB, isNil, Nat.reduceEqDiff, Nat.reduceAdd, Nat.reduceLT, Nat.reduceLeDiff, Int.reduceNeg, Int.reduceToNat, reduceCtorEq, decide_true, decide_false]
        refine LoopG.intro (fun k T H' => ∃ i : Nat, i + k = g.rules.length ∧ (∀ r ∈ g.rules.take i, ¬ 20 < r.right.length) ∧ T 1 = .fptr (encG g) 0 ∧ T 3 = gi i ∧ H' = H) g.rules.length ?_ ?_
        · exact ⟨0, by omega, by simp, rfl, rfl, rfl⟩
        · rintro k T H' ⟨i, hk, hi, e1, e3, rfl⟩
          simp (disch := omega) only [↓wr, ↓reduceIte, wq, eq_self, ne_eq, implies_true, oneV, intOp, goI, splice, sBuild, fillE, nilB, isNil, Nat.reduceEqDiff, Nat.reduceAdd, Nat.reduceLT, Nat.reduceLeDiff, Int.reduceNeg, Int.reduceToNat, reduceCtorEq, decide_true, decide_false, B_gerundref09_Great_0, e1, e3, encG]
          refine GoB.dec (fun hc => ?_) (fun hc => ?_)
          · have hg : g.rules[i]? = some (g.rules[i]'(by omega)) := List.getElem?_eq_getElem (by omega)
            simp (disch := omega) only [↓wr, ↓reduceIte, wq, eq_self, ne_eq, implies_true, oneV, intOp, goI, splice, sBuild, fillE, nilB, isNil, Nat.reduceEqDiff, Nat.reduceAdd, Nat.reduceLT, Nat.reduceLeDiff, Int.reduceNeg, Int.reduceToNat, reduceCtorEq, decide_true, decide_false, e1, e3, encG, encR, encI, List.getElem?_map, hg, Option.map_some]
            refine GoB.dec (fun hd => ?_) (fun hd => ?_)
            · simp (disch := omega) only [↓wr, ↓reduceIte, wq, eq_self, ne_eq, implies_true, oneV, intOp, goI, splice, sBuild, fillE, nilB, isNil, Nat.reduceEqDiff, Nat.reduceAdd, Nat.reduceLT, Nat.reduceLeDiff, Int.reduceNeg, Int.reduceToNat, reduceCtorEq, decide_true, decide_false]
              have : g.rules.any (fun r => decide (20 < r.right.length)) = true := by
                simp only [List.any_eq_true, decide_eq_true_eq]
                exact ⟨g.rules[i]'(by omega), List.getElem_mem _, by omega⟩
              simp [greatG, this]
            · simp (disch := omega) only [↓wr, ↓reduceIte, wq, eq_self, ne_eq, implies_true, oneV, intOp, goI, splice, sBuild, fillE, nilB, isNil, Nat.reduceEqDiff, Nat.reduceAdd, Nat.reduceLT, Nat.reduceLeDiff, Int.reduceNeg, Int.reduceToNat, reduceCtorEq, decide_true, decide_false, e1, e3]
              refine ⟨k - 1, by omega, i + 1, by omega, ?_, rfl, rfl⟩
              intro r hr
              rw [List.take_add_one, hg] at hr
              simp only [Option.toList_some, List.mem_append, List.mem_singleton] at hr
              rcases hr with hr | rfl
              · exact hi r hr
              · omega
          · simp (disch := omega) only [↓wr, ↓reduceIte, wq, eq_self, ne_eq, implies_true, oneV, intOp, goI, splice, sBuild, fillE, nilB, isNil, Nat.reduceEqDiff, Nat.reduceAdd, Nat.reduceLT, Nat.reduceLeDiff, Int.reduceNeg, Int.reduceToNat, reduceCtorEq, decide_true, decide_false, e1, e3]
            have e : i = g.rules.length := by omega
            rw [List.take_of_length_le (by omega)] at hi
            have : g.rules.any (fun r => decide (20 < r.right.length)) = false := by
              simp only [List.any_eq_false, decide_eq_true_eq]; exact hi
            simp only [greatG, this]
            simp; omega
end Gv

/-
  Which nonterminals follow from which: what these functions answer.
  Conditions: lists that are no longer than an int says, numbers that are ints, nonterminals that there are.
-/
set_option linter.unusedSimpArgs false
set_option maxRecDepth 100000
namespace Gv
open Go Go.Proofs

/-- Are all nonterminals of some symbols among others? -/
def allG (l : List Int) (is : List Bool) (terms : Bool) : Bool := l.all fun s => if 0 ≤ s then terms else is.getD (-1 - s).toNat false

def B_gerundref11_all_0 : SC :=
  .seq (.seq (.region false [⟨none, [((some 8), .op (.mov (.tmp 7))), ((some 9), .op (.mov (.tmp 0))), ((some 10), .op (.len (.tmp 9))), ((some 11), .op (.arith .lss (.tmp 8) (.tmp 10)))]⟩]) <|
  .cond (.tmp 11) (.skip) (.exit 0)) <|
  .seq (.block 1 (.seq (.region false [⟨none, [((some 14), .op (.mov (.tmp 0))), ((some 15), .op (.mov (.tmp 7))), ((some 16), .op (.idx 1 (.tmp 14) (.tmp 15))), ((some 17), .op (.load none (.tmp 16))), ((some 18), .op (.arith .geq (.tmp 17) (.val (.val (.int .i64 0))))), ((some 19), .op (.mov (.tmp 18)))]⟩, ⟨(some (19, true)), [((some 20), .op (.mov (.tmp 2))), ((some 21), .op (.not (.tmp 20)))]⟩, ⟨none, [((some 22), .op (.pick (.tmp 19) (.tmp 21) (.val (.val (.bool false))))), ((some 23), .op (.mov (.tmp 22)))]⟩, ⟨(some (23, false)), [((some 24), .op (.mov (.tmp 0))), ((some 25), .op (.mov (.tmp 7))), ((some 26), .op (.idx 1 (.tmp 24) (.tmp 25))), ((some 27), .op (.load none (.tmp 26))), ((some 28), .op (.arith .lss (.tmp 27) (.val (.val (.int .i64 0))))), ((some 29), .op (.mov (.tmp 28)))]⟩, ⟨(some (29, true)), [((some 30), .op (.mov (.tmp 1))), ((some 31), .op (.mov (.tmp 0))), ((some 32), .op (.mov (.tmp 7))), ((some 33), .op (.idx 1 (.tmp 31) (.tmp 32))), ((some 34), .op (.load none (.tmp 33))), ((some 35), .op (.arith .sub (.val (.val (.int .i64 (-1)))) (.tmp 34))), ((some 36), .op (.idx 1 (.tmp 30) (.tmp 35))), ((some 37), .op (.load none (.tmp 36))), ((some 38), .op (.not (.tmp 37)))]⟩, ⟨(some (23, false)), [((some 39), .op (.pick (.tmp 29) (.tmp 38) (.val (.val (.bool false)))))]⟩, ⟨none, [((some 40), .op (.pick (.tmp 23) (.val (.val (.bool true))) (.tmp 39)))]⟩]) <|
  .cond (.tmp 40) (.seq (.region false [⟨none, [((some 6), .op (.mov (.val (.val (.bool false)))))]⟩]) <|
  .ret) (.skip))) <|
  .region false [⟨none, [((some 12), .op (.mov (.tmp 7))), ((some 13), .op (.arith .add (.tmp 12) (.val (.val (.int .i64 1))))), ((some 7), .op (.mov (.tmp 13)))]⟩]
def S_gerundref11_all : SF := ⟨.seq (.region false [⟨none, [((some 6), .op (.mov (.val (.val (.bool false)))))]⟩]) <|
  .seq (.seq (.region false [⟨none, [((some 7), .op (.mov (.val (.val (.int .i64 0)))))]⟩]) <|
  .block 0 (.loop B_gerundref11_all_0)) <|
  .seq (.region false [⟨none, [((some 6), .op (.mov (.val (.val (.bool true)))))]⟩]) <|
  .ret,
  [.tmp 6], 41⟩
theorem S_gerundref11_all_ok : compF Tryz.prog 49 [] = some S_gerundref11_all := by kernel_rfl

theorem mc_all (l : List Int) (is : List Bool) (t : Bool) (hl : Short l) (hs : ∀ s ∈ l, In64 s ∧ (s < 0 → -1 - s < is.length)) (H : View) :
    MCall Tryz.prog 49 [encI l, encB is, gb t] H fun r H' => r = gb (allG l is t) ∧ H' = H := by
  refine MCall.of mixed S_gerundref11_all_ok ?_
  unfold Short at hl
  simp (disch := omega) only [↓wr, ↓reduceIte, wq, eq_self, ne_eq, implies_true, oneV, intOp, goI, splice, sBuild, fillE, nilB, isNil, Nat.reduceEqDiff, Nat.reduceAdd, Nat.reduceLT, Nat.reduceLeDiff, Int.reduceNeg, Int.reduceToNat, reduceCtorEq, decide_true, decide_false, S_gerundref11_all]
  refine LoopG.intro (fun k T H' => ∃ i : Nat, i + k = l.length ∧ allG (l.take i) is t = true ∧ T 0 = encI l ∧ T 1 = encB is ∧ T 2 = gb t ∧ T 7 = gi i ∧ H' = H) l.length ?_ ?_
  · exact ⟨0, by omega, by simp [allG], rfl, rfl, rfl, rfl, rfl⟩
  · rintro k T H' ⟨i, hk, hi, h0, h1, h2, h7, rfl⟩
    simp (disch := omega) only [↓wr, ↓reduceIte, wq, eq_self, ne_eq, implies_true, oneV, intOp, goI, splice, sBuild, fillE, nilB, isNil, Nat.reduceEqDiff, Nat.reduceAdd, Nat.reduceLT, Nat.reduceLeDiff, Int.reduceNeg, Int.reduceToNat, reduceCtorEq, decide_true, decide_false, B_gerundref11_all_0, h0, h1, h2, h7, encI]
    refine GoB.dec (fun hc => ?_) (fun hc => ?_)
    · have hg : l[i]? = some (l[i]'(by omega)) := List.getElem?_eq_getElem (by omega)
      have hm : l[i]'(by omega) ∈ l := List.getElem_mem _
      generalize l[i]'(by omega) = s at hg hm
      obtain ⟨⟨hs1, hs2⟩, hs3⟩ := hs s hm
      have hstep : allG (l.take (i + 1)) is t = (if 0 ≤ s then t else is.getD (-1 - s).toNat false) := by
        rw [List.take_add_one, hg]
        simp only [allG, Option.toList_some, List.all_append, List.all_cons, List.all_nil, Bool.and_true] at hi ⊢
        rw [hi, Bool.true_and]
      have hfail : (if 0 ≤ s then t else is.getD (-1 - s).toNat false) = false → allG l is t = false := by
        intro hb
        simp only [allG, List.all_eq_false]
        exact ⟨s, hm, by simpa using hb⟩
      simp (disch := omega) only [↓wr, ↓reduceIte, wq, eq_self, ne_eq, implies_true, oneV, intOp, goI, splice, sBuild, fillE, nilB, isNil, Nat.reduceEqDiff, Nat.reduceAdd, Nat.reduceLT, Nat.reduceLeDiff, Int.reduceNeg, Int.reduceToNat, reduceCtorEq, decide_true, decide_false, h0, h1, h2, h7, encI, List.getElem?_map, hg, Option.map_some]
      refine GoB.dec (fun hd => ?_) (fun hd => ?_)
      · rw [if_pos (show 0 ≤ s from hd)] at hstep hfail
        cases t with
        | true =>
          simp (disch := omega) only [↓wr, ↓reduceIte, wq, eq_self, ne_eq, implies_true, oneV, intOp, goI, splice, sBuild, fillE, nilB, isNil, Nat.reduceEqDiff, Nat.reduceAdd, Nat.reduceLT, Nat.reduceLeDiff, Int.reduceNeg, Int.reduceToNat, reduceCtorEq, decide_true, decide_false, h0, h1, h2, h7, encI, List.getElem?_map, hg, Option.map_some]
          refine GoB.dec (fun hn => absurd hn (by omega)) (fun _ => ?_)
          simp (disch := omega) only [↓wr, ↓reduceIte, wq, eq_self, ne_eq, implies_true, oneV, intOp, goI, splice, sBuild, fillE, nilB, isNil, Nat.reduceEqDiff, Nat.reduceAdd, Nat.reduceLT, Nat.reduceLeDiff, Int.reduceNeg, Int.reduceToNat, reduceCtorEq, decide_true, decide_false, h0, h1, h2, h7, encI, encB, List.getElem?_map, hg, Option.map_some]
          exact ⟨k - 1, by omega, i + 1, by omega, hstep, rfl⟩
        | false =>
          simp (disch := omega) only [↓wr, ↓reduceIte, wq, eq_self, ne_eq, implies_true, oneV, intOp, goI, splice, sBuild, fillE, nilB, isNil, Nat.reduceEqDiff, Nat.reduceAdd, Nat.reduceLT, Nat.reduceLeDiff, Int.reduceNeg, Int.reduceToNat, reduceCtorEq, decide_true, decide_false, h0, h1, h2, h7, encI, List.getElem?_map, hg, Option.map_some]
          rw [hfail rfl]
      · rw [if_neg (show ¬ 0 ≤ s from hd)] at hstep hfail
        simp (disch := omega) only [↓wr, ↓reduceIte, wq, eq_self, ne_eq, implies_true, oneV, intOp, goI, splice, sBuild, fillE, nilB, isNil, Nat.reduceEqDiff, Nat.reduceAdd, Nat.reduceLT, Nat.reduceLeDiff, Int.reduceNeg, Int.reduceToNat, reduceCtorEq, decide_true, decide_false, h0, h1, h2, h7, encI, List.getElem?_map, hg, Option.map_some]
        refine GoB.dec (fun hn => ?_) (fun hn => absurd hn (by omega))
        have hb : is[(-1 - s).toNat]? = some (is[(-1 - s).toNat]'(by omega)) := List.getElem?_eq_getElem (by omega)
        have hbd : is.getD (-1 - s).toNat false = is[(-1 - s).toNat]'(by omega) := by simp [List.getD_eq_getElem?_getD, hb]
        rw [hbd] at hstep hfail
        generalize is[(-1 - s).toNat]'(by omega) = b at hb hstep hfail
        simp (disch := omega) only [↓wr, ↓reduceIte, wq, eq_self, ne_eq, implies_true, oneV, intOp, goI, splice, sBuild, fillE, nilB, isNil, Nat.reduceEqDiff, Nat.reduceAdd, Nat.reduceLT, Nat.reduceLeDiff, Int.reduceNeg, Int.reduceToNat, reduceCtorEq, decide_true, decide_false, h0, h1, h2, h7, encI, encB, List.getElem?_map, hg, hb, Option.map_some]
        cases b with
        | true =>
          simp (disch := omega) only [↓wr, ↓reduceIte, wq, eq_self, ne_eq, implies_true, oneV, intOp, goI, splice, sBuild, fillE, nilB, isNil, Nat.reduceEqDiff, Nat.reduceAdd, Nat.reduceLT, Nat.reduceLeDiff, Int.reduceNeg, Int.reduceToNat, reduceCtorEq, decide_true, decide_false, h0, h1, h2, h7, encI, encB, List.getElem?_map, hg, hb, Option.map_some]
          exact ⟨k - 1, by omega, i + 1, by omega, hstep, rfl⟩
        | false =>
          simp (disch := omega) only [↓wr, ↓reduceIte, wq, eq_self, ne_eq, implies_true, oneV, intOp, goI, splice, sBuild, fillE, nilB, isNil, Nat.reduceEqDiff, Nat.reduceAdd, Nat.reduceLT, Nat.reduceLeDiff, Int.reduceNeg, Int.reduceToNat, reduceCtorEq, decide_true, decide_false, h0, h1, h2, h7, encI, encB, List.getElem?_map, hg, hb, Option.map_some]
          rw [hfail rfl]
    · simp (disch := omega) only [↓wr, ↓reduceIte, wq, eq_self, ne_eq, implies_true, oneV, intOp, goI, splice, sBuild, fillE, nilB, isNil, Nat.reduceEqDiff, Nat.reduceAdd, Nat.reduceLT, Nat.reduceLeDiff, Int.reduceNeg, Int.reduceToNat, reduceCtorEq, decide_true, decide_false, h0, h1, h2, h7]
      have e : i = l.length := by omega
      rw [List.take_of_length_le (by omega)] at hi
      rw [hi]
end Gv

/-
  Names, literals, and where names stand in a grammar: what these functions answer.
  Conditions: lists that are no longer than an int says.
-/
set_option linter.unusedSimpArgs false
set_option maxRecDepth 100000
namespace Gv
open Go Go.Proofs

abbrev gy (x : Int) : V := .val (.int .u8 x)

def firstB (c : Int) : Bool := (decide (97 ≤ c) && decide (c ≤ 122)) || (decide (65 ≤ c) && decide (c ≤ 90)) || c == 95
def laterB (c : Int) : Bool := firstB c || (decide (48 ≤ c) && decide (c ≤ 57)) || c == 46

def S_gerundref07_first : SF := ⟨.seq (.region false [⟨none, [((some 2), .op (.mov (.val (.val (.bool false)))))]⟩]) <|
  .seq (.region false [⟨none, [((some 3), .op (.mov (.tmp 0))), ((some 4), .op (.arith .geq (.tmp 3) (.val (.val (.int .u8 97))))), ((some 5), .op (.mov (.tmp 4)))]⟩, ⟨(some (5, true)), [((some 6), .op (.mov (.tmp 0))), ((some 7), .op (.arith .leq (.tmp 6) (.val (.val (.int .u8 122)))))]⟩, ⟨none, [((some 8), .op (.pick (.tmp 5) (.tmp 7) (.val (.val (.bool false))))), ((some 9), .op (.mov (.tmp 8)))]⟩, ⟨(some (9, false)), [((some 10), .op (.mov (.tmp 0))), ((some 11), .op (.arith .geq (.tmp 10) (.val (.val (.int .u8 65))))), ((some 12), .op (.mov (.tmp 11)))]⟩, ⟨(some (12, true)), [((some 13), .op (.mov (.tmp 0))), ((some 14), .op (.arith .leq (.tmp 13) (.val (.val (.int .u8 90)))))]⟩, ⟨(some (9, false)), [((some 15), .op (.pick (.tmp 12) (.tmp 14) (.val (.val (.bool false)))))]⟩, ⟨none, [((some 16), .op (.pick (.tmp 9) (.val (.val (.bool true))) (.tmp 15))), ((some 17), .op (.mov (.tmp 16)))]⟩, ⟨(some (17, false)), [((some 18), .op (.mov (.tmp 0))), ((some 19), .op (.arith .eql (.tmp 18) (.val (.val (.int .u8 95)))))]⟩, ⟨none, [((some 20), .op (.pick (.tmp 17) (.val (.val (.bool true))) (.tmp 19))), ((some 2), .op (.mov (.tmp 20)))]⟩]) <|
  .ret,
  [.tmp 2], 21⟩
theorem S_gerundref07_first_ok : compF Tryz.prog 112 [] = some S_gerundref07_first := by kernel_rfl

def S_gerundref07_later : SF := ⟨.seq (.region false [⟨none, [((some 2), .op (.mov (.val (.val (.bool false)))))]⟩]) <|
  .seq (.region false [⟨none, [((some 3), .op (.mov (.tmp 0))), ((some 4), .call (.val (.fn 112 [] [])) [(.tmp 3)]), ((some 5), .op (.mov (.tmp 4)))]⟩, ⟨(some (5, false)), [((some 6), .op (.mov (.tmp 0))), ((some 7), .op (.arith .geq (.tmp 6) (.val (.val (.int .u8 48))))), ((some 8), .op (.mov (.tmp 7)))]⟩, ⟨(some (8, true)), [((some 9), .op (.mov (.tmp 0))), ((some 10), .op (.arith .leq (.tmp 9) (.val (.val (.int .u8 57)))))]⟩, ⟨(some (5, false)), [((some 11), .op (.pick (.tmp 8) (.tmp 10) (.val (.val (.bool false)))))]⟩, ⟨none, [((some 12), .op (.pick (.tmp 5) (.val (.val (.bool true))) (.tmp 11))), ((some 13), .op (.mov (.tmp 12)))]⟩, ⟨(some (13, false)), [((some 14), .op (.mov (.tmp 0))), ((some 15), .op (.arith .eql (.tmp 14) (.val (.val (.int .u8 46)))))]⟩, ⟨none, [((some 16), .op (.pick (.tmp 13) (.val (.val (.bool true))) (.tmp 15))), ((some 2), .op (.mov (.tmp 16)))]⟩]) <|
  .ret,
  [.tmp 2], 17⟩
theorem S_gerundref07_later_ok : compF Tryz.prog 113 [] = some S_gerundref07_later := by kernel_rfl

theorem mc_first (c : Int) (H : View) : MCall Tryz.prog 112 [gy c] H fun r H' => r = gb (firstB c) ∧ H' = H := by
  refine MCall.of mixed S_gerundref07_first_ok ?_
  repeat' (first | (refine GoB.dec (fun _ => ?_) (fun _ => ?_)) | (refine GoB.eq (fun _ => ?_) (fun _ => ?_)) | (refine GoB.ne (fun _ => ?_) (fun _ => ?_)) | (refine GoB.split (fun _ => ?_) (fun _ => ?_)) | (simp (disch := omega) only [↓wr, ↓reduceIte, wq, eq_self, ne_eq, implies_true, oneV, intOp, goI, splice, sBuild, fillE, nilB, isNil, Nat.reduceEqDiff, Nat.reduceAdd, Nat.reduceLT, Nat.reduceLeDiff, Int.reduceNeg, Int.reduceToNat, reduceCtorEq, decide_true, decide_false, S_gerundref07_first]))
  all_goals (congr 2; simp only [firstB]; grind)

theorem pc_first (c : Int) : PCall Tryz.prog 112 [gy c] (gb (firstB c)) :=
  PCall.of (by intro v hv; simp at hv; subst hv; exact .val _) ((mc_first c _).mono fun r H' h h' _ => by rw [h.1]; exact .tree _ (.val _))

theorem mc_later (c : Int) (H : View) : MCall Tryz.prog 113 [gy c] H fun r H' => r = gb (laterB c) ∧ H' = H := by
  refine MCall.of mixed S_gerundref07_later_ok ?_
  repeat' (first | (refine GoB.dec (fun _ => ?_) (fun _ => ?_)) | (refine GoB.eq (fun _ => ?_) (fun _ => ?_)) | (refine GoB.ne (fun _ => ?_) (fun _ => ?_)) | (refine GoB.split (fun _ => ?_) (fun _ => ?_)) | (simp (disch := omega) only [↓wr, ↓reduceIte, wq, eq_self, ne_eq, implies_true, oneV, intOp, goI, splice, sBuild, fillE, nilB, isNil, Nat.reduceEqDiff, Nat.reduceAdd, Nat.reduceLT, Nat.reduceLeDiff, Int.reduceNeg, Int.reduceToNat, reduceCtorEq, decide_true, decide_false, S_gerundref07_later]))
  refine CallG.pure (pc_first c) (by kernel_rfl) ?_
  repeat' (first | (refine GoB.dec (fun _ => ?_) (fun _ => ?_)) | (refine GoB.eq (fun _ => ?_) (fun _ => ?_)) | (refine GoB.ne (fun _ => ?_) (fun _ => ?_)) | (refine GoB.split (fun _ => ?_) (fun _ => ?_)) | (simp (disch := omega) only [↓wr, ↓reduceIte, wq, eq_self, ne_eq, implies_true, oneV, intOp, goI, splice, sBuild, fillE, nilB, isNil, Nat.reduceEqDiff, Nat.reduceAdd, Nat.reduceLT, Nat.reduceLeDiff, Int.reduceNeg, Int.reduceToNat, reduceCtorEq, decide_true, decide_false]))
  all_goals (congr 2; simp only [laterB]; grind)

theorem pc_later (c : Int) : PCall Tryz.prog 113 [gy c] (gb (laterB c)) :=
  PCall.of (by intro v hv; simp at hv; subst hv; exact .val _) ((mc_later c _).mono fun r H' h h' _ => by rw [h.1]; exact .tree _ (.val _))

def nameB (l : List Int) : Bool := decide (0 < l.length) && decide (l.length ≤ 20) && (match l with | c :: _ => firstB c | [] => false) && l.all laterB

def B_gerundref07_Name_0 : SC :=
  .seq (.seq (.region false [⟨none, [((some 18), .op (.mov (.tmp 3))), ((some 19), .op (.mov (.tmp 0))), ((some 20), .op (.lenS (.tmp 19))), ((some 21), .op (.arith .lss (.tmp 18) (.tmp 20)))]⟩]) <|
  .cond (.tmp 21) (.skip) (.exit 0)) <|
  .seq (.block 1 (.seq (.region false [⟨none, [((some 24), .op (.mov (.tmp 0))), ((some 25), .op (.mov (.tmp 3))), ((some 26), .op (.sidx (.tmp 24) (.tmp 25))), ((some 27), .call (.val (.fn 113 [] [])) [(.tmp 26)]), ((some 28), .op (.not (.tmp 27)))]⟩]) <|
  .cond (.tmp 28) (.seq (.region false [⟨none, [((some 2), .op (.mov (.val (.val (.bool false)))))]⟩]) <|
  .ret) (.skip))) <|
  .region false [⟨none, [((some 22), .op (.mov (.tmp 3))), ((some 23), .op (.arith .add (.tmp 22) (.val (.val (.int .i64 1))))), ((some 3), .op (.mov (.tmp 23)))]⟩]
def S_gerundref07_Name : SF := ⟨.seq (.region false [⟨none, [((some 2), .op (.mov (.val (.val (.bool false)))))]⟩]) <|
  .seq (.seq (.region false [⟨none, [((some 4), .op (.mov (.tmp 0))), ((some 5), .op (.lenS (.tmp 4))), ((some 6), .op (.arith .eql (.tmp 5) (.val (.val (.int .i64 0))))), ((some 7), .op (.mov (.tmp 6)))]⟩, ⟨(some (7, false)), [((some 8), .op (.mov (.tmp 0))), ((some 9), .op (.lenS (.tmp 8))), ((some 10), .op (.arith .gtr (.tmp 9) (.val (.val (.int .i64 20)))))]⟩, ⟨none, [((some 11), .op (.pick (.tmp 7) (.val (.val (.bool true))) (.tmp 10))), ((some 12), .op (.mov (.tmp 11)))]⟩, ⟨(some (12, false)), [((some 13), .op (.mov (.tmp 0))), ((some 14), .op (.sidx (.tmp 13) (.val (.val (.int .i64 0))))), ((some 15), .call (.val (.fn 112 [] [])) [(.tmp 14)]), ((some 16), .op (.not (.tmp 15)))]⟩, ⟨none, [((some 17), .op (.pick (.tmp 12) (.val (.val (.bool true))) (.tmp 16)))]⟩]) <|
  .cond (.tmp 17) (.seq (.region false [⟨none, [((some 2), .op (.mov (.val (.val (.bool false)))))]⟩]) <|
  .ret) (.skip)) <|
  .seq (.seq (.region false [⟨none, [((some 3), .op (.mov (.val (.val (.int .i64 0)))))]⟩]) <|
  .block 0 (.loop B_gerundref07_Name_0)) <|
  .seq (.region false [⟨none, [((some 2), .op (.mov (.val (.val (.bool true)))))]⟩]) <|
  .ret,
  [.tmp 2], 29⟩
theorem S_gerundref07_Name_ok : compF Tryz.prog 86 [] = some S_gerundref07_Name := by kernel_rfl

theorem mc_Name07 (s : ByteArray) (H : View) : MCall Tryz.prog 86 [gs s] H fun r H' => r = gb (nameB (bts s)) ∧ H' = H := by
  refine MCall.of mixed S_gerundref07_Name_ok ?_
  repeat' (first | (refine GoB.dec (fun _ => ?_) (fun _ => ?_)) | (refine GoB.eq (fun _ => ?_) (fun _ => ?_)) | (refine GoB.ne (fun _ => ?_) (fun _ => ?_)) | (refine GoB.split (fun _ => ?_) (fun _ => ?_)) | (simp (disch := omega) only [↓wr, ↓reduceIte, wq, eq_self, ne_eq, implies_true, oneV, intOp, goI, splice, sBuild, fillE, nilB, isNil, Nat.reduceEqDiff, Nat.reduceAdd, Nat.reduceLT, Nat.reduceLeDiff, Int.reduceNeg, Int.reduceToNat, reduceCtorEq, decide_true, decide_false, S_gerundref07_Name, bts_len]))
  · rename_i h
    congr 2; simp [nameB, show (bts s).length = 0 by omega]
  · rename_i h
    congr 2; simp [nameB, show ¬ (bts s).length ≤ 20 by omega]
  · rename_i h1 h2
    cases hb : bts s with
    | nil => simp [hb] at h1
    | cons c l =>
      repeat' (first | (refine GoB.dec (fun _ => ?_) (fun _ => ?_)) | (refine GoB.eq (fun _ => ?_) (fun _ => ?_)) | (refine GoB.ne (fun _ => ?_) (fun _ => ?_)) | (refine GoB.split (fun _ => ?_) (fun _ => ?_)) | (simp (disch := omega) only [↓wr, ↓reduceIte, wq, eq_self, ne_eq, implies_true, oneV, intOp, goI, splice, sBuild, fillE, nilB, isNil, Nat.reduceEqDiff, Nat.reduceAdd, Nat.reduceLT, Nat.reduceLeDiff, Int.reduceNeg, Int.reduceToNat, reduceCtorEq, decide_true, decide_false, hb, List.getElem?_cons_zero, bts_len]))
      refine CallG.pure (pc_first c) (by kernel_rfl) ?_
      repeat' (first | (refine GoB.dec (fun _ => ?_) (fun _ => ?_)) | (refine GoB.eq (fun _ => ?_) (fun _ => ?_)) | (refine GoB.ne (fun _ => ?_) (fun _ => ?_)) | (refine GoB.split (fun _ => ?_) (fun _ => ?_)) | (simp (disch := omega) only [↓wr, ↓reduceIte, wq, eq_self, ne_eq, implies_true, oneV, intOp, goI, splice, sBuild, fillE, nilB, isNil, Nat.reduceEqDiff, Nat.reduceAdd, Nat.reduceLT, Nat.reduceLeDiff, Int.reduceNeg, Int.reduceToNat, reduceCtorEq, decide_true, decide_false, hb, List.getElem?_cons_zero, bts_len]))
      · rename_i hf
        refine LoopG.intro (fun k T H' => ∃ i : Nat, i + k = (c :: l).length ∧ ((c :: l).take i).all laterB = true ∧ T 0 = gs s ∧ T 3 = gi i ∧ H' = H) (c :: l).length ?_ ?_
        · exact ⟨0, by omega, by simp, rfl, rfl, rfl⟩
        · rintro k T H' ⟨i, hk, hi, h0, h3, rfl⟩
          rw [hb] at h1 h2
          simp (disch := omega) only [↓wr, ↓reduceIte, wq, eq_self, ne_eq, implies_true, oneV, intOp, goI, splice, sBuild, fillE, nilB, isNil, Nat.reduceEqDiff, Nat.reduceAdd, Nat.reduceLT, Nat.reduceLeDiff, Int.reduceNeg, Int.reduceToNat, reduceCtorEq, decide_true, decide_false, B_gerundref07_Name_0, h0, h3, bts_len, hb]
          refine GoB.dec (fun hc => ?_) (fun hc => ?_)
          · simp only [List.length_cons] at hc hk h2
            have hg : (c :: l)[i]? = some ((c :: l)[i]'(by simp; omega)) := List.getElem?_eq_getElem (by simp; omega)
            have hm : (c :: l)[i]'(by simp; omega) ∈ c :: l := List.getElem_mem _
            generalize (c :: l)[i]'(by simp; omega) = d at hg hm
            simp (disch := omega) only [↓wr, ↓reduceIte, wq, eq_self, ne_eq, implies_true, oneV, intOp, goI, splice, sBuild, fillE, nilB, isNil, Nat.reduceEqDiff, Nat.reduceAdd, Nat.reduceLT, Nat.reduceLeDiff, Int.reduceNeg, Int.reduceToNat, reduceCtorEq, decide_true, decide_false, h0, h3, bts_len, hb, hg]
            refine CallG.pure (pc_later d) (by kernel_rfl) ?_
            repeat' (first | (refine GoB.dec (fun _ => ?_) (fun _ => ?_)) | (refine GoB.eq (fun _ => ?_) (fun _ => ?_)) | (refine GoB.ne (fun _ => ?_) (fun _ => ?_)) | (refine GoB.split (fun _ => ?_) (fun _ => ?_)) | (simp (disch := omega) only [↓wr, ↓reduceIte, wq, eq_self, ne_eq, implies_true, oneV, intOp, goI, splice, sBuild, fillE, nilB, isNil, Nat.reduceEqDiff, Nat.reduceAdd, Nat.reduceLT, Nat.reduceLeDiff, Int.reduceNeg, Int.reduceToNat, reduceCtorEq, decide_true, decide_false, h0, h3, bts_len, hb, hg]))
            · rename_i hd
              refine ⟨k - 1, by omega, i + 1, by omega, ?_, rfl⟩
              rw [List.take_add_one, hg]
              simp only [Option.toList_some, List.all_append, hi, List.all_cons, hd, List.all_nil, Bool.and_self]
            · rename_i hd
              congr 2
              have : (c :: l).all laterB = false := by
                rw [List.all_eq_false]; exact ⟨d, hm, by simp [hd]⟩
              simp only [nameB, this, Bool.and_false]
          · simp (disch := omega) only [↓wr, ↓reduceIte, wq, eq_self, ne_eq, implies_true, oneV, intOp, goI, splice, sBuild, fillE, nilB, isNil, Nat.reduceEqDiff, Nat.reduceAdd, Nat.reduceLT, Nat.reduceLeDiff, Int.reduceNeg, Int.reduceToNat, reduceCtorEq, decide_true, decide_false, h0, h3]
            simp only [List.length_cons] at hc hk h2
            rw [List.take_of_length_le (by simp; omega)] at hi
            congr 2
            simp only [nameB, hi, List.length_cons]
            simp [hf]; omega
      · rename_i hf
        congr 2; simp [nameB, hf]
end Gv

/-
  Literals; where names stand in a grammar; the levels of its terminals: what these functions answer.
  Conditions: lists that are no longer than an int says, numbers that are ints.
-/
set_option linter.unusedSimpArgs false
set_option maxRecDepth 100000
namespace Gv
open Go Go.Proofs

def litB : List Int → Bool
  | [a, b, c] => a == 39 && c == 39 && decide (32 ≤ b) && decide (b ≤ 126) && b != 39 && b != 92
  | [a, b, c, d] => a == 39 && d == 39 && b == 92 && (c == 110 || c == 116 || c == 92 || c == 39)
  | _ => false

theorem litB_off {l : List Int} (h3 : l.length ≠ 3) (h4 : l.length ≠ 4) : litB l = false := by
  match l, h3, h4 with
  | [], _, _ => rfl
  | [_], _, _ => rfl
  | [_, _], _, _ => rfl
  | [_, _, _], h3, _ => exact absurd rfl h3
  | [_, _, _, _], _, h4 => exact absurd rfl h4
  | _ :: _ :: _ :: _ :: _ :: _, _, _ => rfl

theorem len3 {α : Type} {l : List α} (h : l.length = 3) : ∃ a b c, l = [a, b, c] := by
  match l, h with
  | [a, b, c], _ => exact ⟨a, b, c, rfl⟩
theorem len4 {α : Type} {l : List α} (h : l.length = 4) : ∃ a b c d, l = [a, b, c, d] := by
  match l, h with
  | [a, b, c, d], _ => exact ⟨a, b, c, d, rfl⟩

def S_gerundref07_Literal : SF := ⟨.seq (.region false [⟨none, [((some 2), .op (.mov (.val (.val (.bool false)))))]⟩]) <|
  .seq (.seq (.region false [⟨none, [((some 3), .op (.mov (.tmp 0))), ((some 4), .op (.lenS (.tmp 3))), ((some 5), .op (.arith .eql (.tmp 4) (.val (.val (.int .i64 3)))))]⟩]) <|
  .cond (.tmp 5) (.seq (.region false [⟨none, [((some 6), .op (.mov (.tmp 0))), ((some 7), .op (.sidx (.tmp 6) (.val (.val (.int .i64 0))))), ((some 8), .op (.arith .eql (.tmp 7) (.val (.val (.int .u8 39))))), ((some 9), .op (.mov (.tmp 8)))]⟩, ⟨(some (9, true)), [((some 10), .op (.mov (.tmp 0))), ((some 11), .op (.sidx (.tmp 10) (.val (.val (.int .i64 2))))), ((some 12), .op (.arith .eql (.tmp 11) (.val (.val (.int .u8 39)))))]⟩, ⟨none, [((some 13), .op (.pick (.tmp 9) (.tmp 12) (.val (.val (.bool false))))), ((some 14), .op (.mov (.tmp 13)))]⟩, ⟨(some (14, true)), [((some 15), .op (.mov (.tmp 0))), ((some 16), .op (.sidx (.tmp 15) (.val (.val (.int .i64 1))))), ((some 17), .op (.arith .geq (.tmp 16) (.val (.val (.int .u8 32)))))]⟩, ⟨none, [((some 18), .op (.pick (.tmp 14) (.tmp 17) (.val (.val (.bool false))))), ((some 19), .op (.mov (.tmp 18)))]⟩, ⟨(some (19, true)), [((some 20), .op (.mov (.tmp 0))), ((some 21), .op (.sidx (.tmp 20) (.val (.val (.int .i64 1))))), ((some 22), .op (.arith .leq (.tmp 21) (.val (.val (.int .u8 126)))))]⟩, ⟨none, [((some 23), .op (.pick (.tmp 19) (.tmp 22) (.val (.val (.bool false))))), ((some 24), .op (.mov (.tmp 23)))]⟩, ⟨(some (24, true)), [((some 25), .op (.mov (.tmp 0))), ((some 26), .op (.sidx (.tmp 25) (.val (.val (.int .i64 1))))), ((some 27), .op (.arith .neq (.tmp 26) (.val (.val (.int .u8 39)))))]⟩, ⟨none, [((some 28), .op (.pick (.tmp 24) (.tmp 27) (.val (.val (.bool false))))), ((some 29), .op (.mov (.tmp 28)))]⟩, ⟨(some (29, true)), [((some 30), .op (.mov (.tmp 0))), ((some 31), .op (.sidx (.tmp 30) (.val (.val (.int .i64 1))))), ((some 32), .op (.arith .neq (.tmp 31) (.val (.val (.int .u8 92)))))]⟩, ⟨none, [((some 33), .op (.pick (.tmp 29) (.tmp 32) (.val (.val (.bool false))))), ((some 2), .op (.mov (.tmp 33)))]⟩]) <|
  .ret) (.skip)) <|
  .seq (.region false [⟨none, [((some 34), .op (.mov (.tmp 0))), ((some 35), .op (.lenS (.tmp 34))), ((some 36), .op (.arith .eql (.tmp 35) (.val (.val (.int .i64 4))))), ((some 37), .op (.mov (.tmp 36)))]⟩, ⟨(some (37, true)), [((some 38), .op (.mov (.tmp 0))), ((some 39), .op (.sidx (.tmp 38) (.val (.val (.int .i64 0))))), ((some 40), .op (.arith .eql (.tmp 39) (.val (.val (.int .u8 39)))))]⟩, ⟨none, [((some 41), .op (.pick (.tmp 37) (.tmp 40) (.val (.val (.bool false))))), ((some 42), .op (.mov (.tmp 41)))]⟩, ⟨(some (42, true)), [((some 43), .op (.mov (.tmp 0))), ((some 44), .op (.sidx (.tmp 43) (.val (.val (.int .i64 3))))), ((some 45), .op (.arith .eql (.tmp 44) (.val (.val (.int .u8 39)))))]⟩, ⟨none, [((some 46), .op (.pick (.tmp 42) (.tmp 45) (.val (.val (.bool false))))), ((some 47), .op (.mov (.tmp 46)))]⟩, ⟨(some (47, true)), [((some 48), .op (.mov (.tmp 0))), ((some 49), .op (.sidx (.tmp 48) (.val (.val (.int .i64 1))))), ((some 50), .op (.arith .eql (.tmp 49) (.val (.val (.int .u8 92)))))]⟩, ⟨none, [((some 51), .op (.pick (.tmp 47) (.tmp 50) (.val (.val (.bool false))))), ((some 52), .op (.mov (.tmp 51)))]⟩, ⟨(some (52, true)), [((some 53), .op (.mov (.tmp 0))), ((some 54), .op (.sidx (.tmp 53) (.val (.val (.int .i64 2))))), ((some 55), .op (.arith .eql (.tmp 54) (.val (.val (.int .u8 110))))), ((some 56), .op (.mov (.tmp 55)))]⟩, ⟨(some (56, false)), [((some 57), .op (.mov (.tmp 0))), ((some 58), .op (.sidx (.tmp 57) (.val (.val (.int .i64 2))))), ((some 59), .op (.arith .eql (.tmp 58) (.val (.val (.int .u8 116)))))]⟩, ⟨(some (52, true)), [((some 60), .op (.pick (.tmp 56) (.val (.val (.bool true))) (.tmp 59))), ((some 61), .op (.mov (.tmp 60)))]⟩, ⟨(some (61, false)), [((some 62), .op (.mov (.tmp 0))), ((some 63), .op (.sidx (.tmp 62) (.val (.val (.int .i64 2))))), ((some 64), .op (.arith .eql (.tmp 63) (.val (.val (.int .u8 92)))))]⟩, ⟨(some (52, true)), [((some 65), .op (.pick (.tmp 61) (.val (.val (.bool true))) (.tmp 64))), ((some 66), .op (.mov (.tmp 65)))]⟩, ⟨(some (66, false)), [((some 67), .op (.mov (.tmp 0))), ((some 68), .op (.sidx (.tmp 67) (.val (.val (.int .i64 2))))), ((some 69), .op (.arith .eql (.tmp 68) (.val (.val (.int .u8 39)))))]⟩, ⟨(some (52, true)), [((some 70), .op (.pick (.tmp 66) (.val (.val (.bool true))) (.tmp 69)))]⟩, ⟨none, [((some 71), .op (.pick (.tmp 52) (.tmp 70) (.val (.val (.bool false))))), ((some 2), .op (.mov (.tmp 71)))]⟩]) <|
  .ret,
  [.tmp 2], 72⟩
theorem S_gerundref07_Literal_ok : compF Tryz.prog 111 [] = some S_gerundref07_Literal := by kernel_rfl

def S_gerundref09_named : SF := ⟨.seq (.region false [⟨none, [((some 2), .op (.mov (.val (.val (.bool false)))))]⟩]) <|
  .seq (.region false [⟨none, [((some 3), .op (.mov (.tmp 0))), ((some 4), .call (.val (.fn 86 [] [])) [(.tmp 3)]), ((some 5), .op (.mov (.tmp 4)))]⟩, ⟨(some (5, false)), [((some 6), .op (.mov (.tmp 0))), ((some 7), .call (.val (.fn 111 [] [])) [(.tmp 6)])]⟩, ⟨none, [((some 8), .op (.pick (.tmp 5) (.val (.val (.bool true))) (.tmp 7))), ((some 2), .op (.mov (.tmp 8)))]⟩]) <|
  .ret,
  [.tmp 2], 9⟩
theorem S_gerundref09_named_ok : compF Tryz.prog 83 [] = some S_gerundref09_named := by kernel_rfl

set_option maxHeartbeats 1000000 in
theorem mc_Lit07 (s : ByteArray) (H : View) : MCall Tryz.prog 111 [gs s] H fun r H' => r = gb (litB (bts s)) ∧ H' = H := by
  refine MCall.of mixed S_gerundref07_Literal_ok ?_
  simp (disch := omega) only [↓wr, ↓reduceIte, wq, eq_self, ne_eq, implies_true, oneV, intOp, goI, splice, sBuild, fillE, nilB, isNil, Nat.reduceEqDiff, Nat.reduceAdd, Nat.reduceLT, Nat.reduceLeDiff, Int.reduceNeg, Int.reduceToNat, reduceCtorEq, decide_true, decide_false, S_gerundref07_Literal, bts_len]
  refine GoB.eq (fun h => ?_) (fun h => ?_)
  · obtain ⟨a, b, c, hb⟩ := len3 (l := bts s) (by omega)
    repeat' (first | (refine GoB.dec (fun _ => ?_) (fun _ => ?_)) | (refine GoB.eq (fun _ => ?_) (fun _ => ?_)) | (refine GoB.ne (fun _ => ?_) (fun _ => ?_)) | (refine GoB.split (fun _ => ?_) (fun _ => ?_)) | (simp (disch := omega) only [↓wr, ↓reduceIte, wq, eq_self, ne_eq, implies_true, oneV, intOp, goI, splice, sBuild, fillE, nilB, isNil, Nat.reduceEqDiff, Nat.reduceAdd, Nat.reduceLT, Nat.reduceLeDiff, Int.reduceNeg, Int.reduceToNat, reduceCtorEq, decide_true, decide_false, hb, List.getElem?_cons_zero, List.getElem?_cons_succ]))
    all_goals (congr 2; simp only [litB]; grind)
  · simp (disch := omega) only [↓wr, ↓reduceIte, wq, eq_self, ne_eq, implies_true, oneV, intOp, goI, splice, sBuild, fillE, nilB, isNil, Nat.reduceEqDiff, Nat.reduceAdd, Nat.reduceLT, Nat.reduceLeDiff, Int.reduceNeg, Int.reduceToNat, reduceCtorEq, decide_true, decide_false, bts_len]
    refine GoB.eq (fun h4 => ?_) (fun h4 => ?_)
    · obtain ⟨a, b, c, d, hb⟩ := len4 (l := bts s) (by omega)
      repeat' (first | (refine GoB.dec (fun _ => ?_) (fun _ => ?_)) | (refine GoB.eq (fun _ => ?_) (fun _ => ?_)) | (refine GoB.ne (fun _ => ?_) (fun _ => ?_)) | (refine GoB.split (fun _ => ?_) (fun _ => ?_)) | (simp (disch := omega) only [↓wr, ↓reduceIte, wq, eq_self, ne_eq, implies_true, oneV, intOp, goI, splice, sBuild, fillE, nilB, isNil, Nat.reduceEqDiff, Nat.reduceAdd, Nat.reduceLT, Nat.reduceLeDiff, Int.reduceNeg, Int.reduceToNat, reduceCtorEq, decide_true, decide_false, hb, List.getElem?_cons_zero, List.getElem?_cons_succ]))
      all_goals (congr 2; simp only [litB]; grind)
    · repeat' (first | (refine GoB.dec (fun _ => ?_) (fun _ => ?_)) | (refine GoB.eq (fun _ => ?_) (fun _ => ?_)) | (refine GoB.ne (fun _ => ?_) (fun _ => ?_)) | (refine GoB.split (fun _ => ?_) (fun _ => ?_)) | (simp (disch := omega) only [↓wr, ↓reduceIte, wq, eq_self, ne_eq, implies_true, oneV, intOp, goI, splice, sBuild, fillE, nilB, isNil, Nat.reduceEqDiff, Nat.reduceAdd, Nat.reduceLT, Nat.reduceLeDiff, Int.reduceNeg, Int.reduceToNat, reduceCtorEq, decide_true, decide_false, bts_len]))
      rw [litB_off (by omega) (by omega)]

theorem gs_tree (s : ByteArray) : ∀ v ∈ [gs s], Tree v := by intro v hv; simp at hv; subst hv; exact .val _

theorem pc_Name07 (s : ByteArray) : PCall Tryz.prog 86 [gs s] (gb (nameB (bts s))) :=
  PCall.of (gs_tree s) ((mc_Name07 s _).mono fun r H' h h' _ => by rw [h.1]; exact .tree _ (.val _))
theorem pc_Lit07 (s : ByteArray) : PCall Tryz.prog 111 [gs s] (gb (litB (bts s))) :=
  PCall.of (gs_tree s) ((mc_Lit07 s _).mono fun r H' h h' _ => by rw [h.1]; exact .tree _ (.val _))

def namedB (l : List Int) : Bool := nameB l || litB l

theorem mc_named09 (s : ByteArray) (H : View) : MCall Tryz.prog 83 [gs s] H fun r H' => r = gb (namedB (bts s)) ∧ H' = H := by
  refine MCall.of mixed S_gerundref09_named_ok ?_
  simp (disch := omega) only [↓wr, ↓reduceIte, wq, eq_self, ne_eq, implies_true, oneV, intOp, goI, splice, sBuild, fillE, nilB, isNil, Nat.reduceEqDiff, Nat.reduceAdd, Nat.reduceLT, Nat.reduceLeDiff, Int.reduceNeg, Int.reduceToNat, reduceCtorEq, decide_true, decide_false, S_gerundref09_named]
  refine CallG.pure (pc_Name07 s) (by kernel_rfl) ?_
  repeat' (first | (refine GoB.dec (fun _ => ?_) (fun _ => ?_)) | (refine GoB.eq (fun _ => ?_) (fun _ => ?_)) | (refine GoB.ne (fun _ => ?_) (fun _ => ?_)) | (refine GoB.split (fun _ => ?_) (fun _ => ?_)) | (simp (disch := omega) only [↓wr, ↓reduceIte, wq, eq_self, ne_eq, implies_true, oneV, intOp, goI, splice, sBuild, fillE, nilB, isNil, Nat.reduceEqDiff, Nat.reduceAdd, Nat.reduceLT, Nat.reduceLeDiff, Int.reduceNeg, Int.reduceToNat, reduceCtorEq, decide_true, decide_false]))
  · rename_i h; simp [namedB, h]
  · rename_i h
    refine CallG.pure (pc_Lit07 s) (by kernel_rfl) ?_
    repeat' (first | (refine GoB.dec (fun _ => ?_) (fun _ => ?_)) | (refine GoB.eq (fun _ => ?_) (fun _ => ?_)) | (refine GoB.ne (fun _ => ?_) (fun _ => ?_)) | (refine GoB.split (fun _ => ?_) (fun _ => ?_)) | (simp (disch := omega) only [↓wr, ↓reduceIte, wq, eq_self, ne_eq, implies_true, oneV, intOp, goI, splice, sBuild, fillE, nilB, isNil, Nat.reduceEqDiff, Nat.reduceAdd, Nat.reduceLT, Nat.reduceLeDiff, Int.reduceNeg, Int.reduceToNat, reduceCtorEq, decide_true, decide_false]))
    simp [namedB, h]

theorem pc_named09 (s : ByteArray) : PCall Tryz.prog 83 [gs s] (gb (namedB (bts s))) :=
  PCall.of (gs_tree s) ((mc_named09 s _).mono fun r H' h h' _ => by rw [h.1]; exact .tree _ (.val _))

end Gv

/-
  Where names stand in a grammar; the levels of its terminals; may a grammar be: what the document's functions answer.
  Conditions: lists that are no longer than an int says, numbers that are ints.
-/
set_option linter.unusedSimpArgs false
set_option maxRecDepth 100000
namespace Gv
open Go Go.Proofs

def idxS (s : ByteArray) : List ByteArray → Int → Int
  | [], _ => -1
  | x :: l, i => if strEq x s = true then i else idxS s l (i + 1)
def termI (g : Gram) (s : ByteArray) : Int := idxS s (g.terms.map Term.name) 0
def nonI (g : Gram) (s : ByteArray) : Int := idxS s g.nons 0

theorem drop_at {α : Type} {l : List α} {i : Nat} (h : i < l.length) : l.drop i = l[i] :: l.drop (i + 1) := List.drop_eq_getElem_cons h

theorem gs_trees (g : Gram) (s : ByteArray) : ∀ v ∈ [V.agg (encG g), gs s], Tree v := by
  intro v hv; simp at hv
  rcases hv with rfl | rfl
  · exact tree_agg _ (encG_tree g)
  · exact .val _
theorem gg_tree (g : Gram) : ∀ v ∈ [V.agg (encG g)], Tree v := by intro v hv; simp at hv; subst hv; exact tree_agg _ (encG_tree g)
theorem gi_trees (g : Gram) (x : Int) : ∀ v ∈ [V.agg (encG g), gi x], Tree v := by
  intro v hv; simp at hv
  rcases hv with rfl | rfl
  · exact tree_agg _ (encG_tree g)
  · exact .val _

/-- What is pure and answers a plain value. -/
theorem PCall.val {P : Program} {f : FuncId} {vs : List V} {x : Value} (ht : ∀ v ∈ vs, Tree v) (h : ∀ H, MCall P f vs H fun r _ => r = .val x) : PCall P f vs (.val x) :=
  PCall.of ht ((h _).mono fun r H' e h' _ => by rw [e]; exact .tree _ (.val _))

def B_gerundref09_term_0 : SC :=
  .seq (.seq (.region false [⟨none, [((some 6), .op (.mov (.tmp 5))), ((some 7), .op (.addr 0 (.tmp 2))), ((some 8), .op (.load none (.tmp 7))), ((some 9), .op (.len (.tmp 8))), ((some 10), .op (.arith .lss (.tmp 6) (.tmp 9)))]⟩]) <|
  .cond (.tmp 10) (.skip) (.exit 0)) <|
  .seq (.block 1 (.seq (.region false [⟨none, [((some 13), .op (.addr 0 (.tmp 2))), ((some 14), .op (.load none (.tmp 13))), ((some 15), .op (.mov (.tmp 5))), ((some 16), .op (.idx 3 (.tmp 14) (.tmp 15))), ((some 17), .op (.addr 0 (.tmp 16))), ((some 18), .op (.load none (.tmp 17))), ((some 19), .op (.mov (.tmp 1))), ((some 20), .op (.sop .eql (.tmp 18) (.tmp 19)))]⟩]) <|
  .cond (.tmp 20) (.seq (.region false [⟨none, [((some 21), .op (.mov (.tmp 5))), ((some 4), .op (.mov (.tmp 21)))]⟩]) <|
  .ret) (.skip))) <|
  .region false [⟨none, [((some 11), .op (.mov (.tmp 5))), ((some 12), .op (.arith .add (.tmp 11) (.val (.val (.int .i64 1))))), ((some 5), .op (.mov (.tmp 12)))]⟩]
def S_gerundref09_term : SF := ⟨.seq (.region false [⟨none, [((some 2), .op (.frz (.tmp 0))), ((some 4), .op (.mov (.val (.val (.int .i64 0)))))]⟩]) <|
  .seq (.seq (.region false [⟨none, [((some 5), .op (.mov (.val (.val (.int .i64 0)))))]⟩]) <|
  .block 0 (.loop B_gerundref09_term_0)) <|
  .seq (.region false [⟨none, [((some 4), .op (.mov (.val (.val (.int .i64 (-1))))))]⟩]) <|
  .ret,
  [.tmp 4], 22⟩
theorem S_gerundref09_term_ok : compF Tryz.prog 84 [2] = some S_gerundref09_term := by kernel_rfl

def B_gerundref09_non_0 : SC :=
  .seq (.seq (.region false [⟨none, [((some 6), .op (.mov (.tmp 5))), ((some 7), .op (.addr 1 (.tmp 2))), ((some 8), .op (.load none (.tmp 7))), ((some 9), .op (.len (.tmp 8))), ((some 10), .op (.arith .lss (.tmp 6) (.tmp 9)))]⟩]) <|
  .cond (.tmp 10) (.skip) (.exit 0)) <|
  .seq (.block 1 (.seq (.region false [⟨none, [((some 13), .op (.addr 1 (.tmp 2))), ((some 14), .op (.load none (.tmp 13))), ((some 15), .op (.mov (.tmp 5))), ((some 16), .op (.idx 1 (.tmp 14) (.tmp 15))), ((some 17), .op (.load none (.tmp 16))), ((some 18), .op (.mov (.tmp 1))), ((some 19), .op (.sop .eql (.tmp 17) (.tmp 18)))]⟩]) <|
  .cond (.tmp 19) (.seq (.region false [⟨none, [((some 20), .op (.mov (.tmp 5))), ((some 4), .op (.mov (.tmp 20)))]⟩]) <|
  .ret) (.skip))) <|
  .region false [⟨none, [((some 11), .op (.mov (.tmp 5))), ((some 12), .op (.arith .add (.tmp 11) (.val (.val (.int .i64 1))))), ((some 5), .op (.mov (.tmp 12)))]⟩]
def S_gerundref09_non : SF := ⟨.seq (.region false [⟨none, [((some 2), .op (.frz (.tmp 0))), ((some 4), .op (.mov (.val (.val (.int .i64 0)))))]⟩]) <|
  .seq (.seq (.region false [⟨none, [((some 5), .op (.mov (.val (.val (.int .i64 0)))))]⟩]) <|
  .block 0 (.loop B_gerundref09_non_0)) <|
  .seq (.region false [⟨none, [((some 4), .op (.mov (.val (.val (.int .i64 (-1))))))]⟩]) <|
  .ret,
  [.tmp 4], 21⟩
theorem S_gerundref09_non_ok : compF Tryz.prog 87 [2] = some S_gerundref09_non := by kernel_rfl

def B_gerundref09_level_0 : SC :=
  .seq (.seq (.region false [⟨none, [((some 8), .op (.mov (.tmp 6))), ((some 9), .op (.addr 0 (.tmp 2))), ((some 10), .op (.load none (.tmp 9))), ((some 11), .op (.len (.tmp 10))), ((some 12), .op (.arith .lss (.tmp 8) (.tmp 11)))]⟩]) <|
  .cond (.tmp 12) (.skip) (.exit 0)) <|
  .seq (.block 1 (.seq (.region false [⟨none, [((some 15), .op (.addr 0 (.tmp 2))), ((some 16), .op (.load none (.tmp 15))), ((some 17), .op (.mov (.tmp 6))), ((some 18), .op (.idx 3 (.tmp 16) (.tmp 17))), ((some 19), .op (.load (some 3) (.tmp 18))), ((some 7), .op (.alloc [(.val (.string ⟨#[]⟩)), (.val (.int .i64 0)), (.val (.int .i64 0))])), (none, .op (.store 3 (.tmp 7) (.tmp 19)))]⟩]) <|
  .seq (.seq (.region false [⟨none, [((some 20), .op (.addr 1 (.tmp 7))), ((some 21), .op (.load none (.tmp 20))), ((some 22), .op (.mov (.tmp 1))), ((some 23), .op (.arith .neq (.tmp 21) (.tmp 22)))]⟩]) <|
  .cond (.tmp 23) (.exit 1) (.skip)) <|
  .seq (.seq (.region false [⟨none, [((some 24), .op (.mov (.tmp 5))), ((some 25), .op (.arith .neq (.tmp 24) (.val (.val (.int .i64 0))))), ((some 26), .op (.mov (.tmp 25)))]⟩, ⟨(some (26, true)), [((some 27), .op (.mov (.tmp 5))), ((some 28), .op (.addr 2 (.tmp 7))), ((some 29), .op (.load none (.tmp 28))), ((some 30), .op (.arith .neq (.tmp 27) (.tmp 29)))]⟩, ⟨none, [((some 31), .op (.pick (.tmp 26) (.tmp 30) (.val (.val (.bool false)))))]⟩]) <|
  .cond (.tmp 31) (.seq (.region false [⟨none, [((some 4), .op (.mov (.val (.val (.bool false)))))]⟩]) <|
  .ret) (.skip)) <|
  .region false [⟨none, [((some 32), .op (.addr 2 (.tmp 7))), ((some 33), .op (.load none (.tmp 32))), ((some 5), .op (.mov (.tmp 33)))]⟩])) <|
  .region false [⟨none, [((some 13), .op (.mov (.tmp 6))), ((some 14), .op (.arith .add (.tmp 13) (.val (.val (.int .i64 1))))), ((some 6), .op (.mov (.tmp 14)))]⟩]
def S_gerundref09_level : SF := ⟨.seq (.region false [⟨none, [((some 2), .op (.frz (.tmp 0))), ((some 4), .op (.mov (.val (.val (.bool false)))))]⟩]) <|
  .seq (.region false [⟨none, [((some 5), .op (.mov (.val (.val (.int .i64 0)))))]⟩]) <|
  .seq (.seq (.region false [⟨none, [((some 6), .op (.mov (.val (.val (.int .i64 0)))))]⟩]) <|
  .block 0 (.loop B_gerundref09_level_0)) <|
  .seq (.region false [⟨none, [((some 34), .op (.mov (.tmp 5))), ((some 35), .op (.arith .neq (.tmp 34) (.val (.val (.int .i64 0))))), ((some 4), .op (.mov (.tmp 35)))]⟩]) <|
  .ret,
  [.tmp 4], 36⟩
theorem S_gerundref09_level_ok : compF Tryz.prog 85 [2] = some S_gerundref09_level := by kernel_rfl

theorem mc_term09 (g : Gram) (hg : g.Ok) (s : ByteArray) (H : View) : MCall Tryz.prog 84 [.agg (encG g), gs s] H fun r _ => r = gi (termI g s) := by
  refine MCall.of mixed S_gerundref09_term_ok ?_
  have hs : g.terms.length < 4611686018427387904 := hg.terms
  simp (disch := omega) only [↓wr, ↓reduceIte, wq, eq_self, ne_eq, implies_true, oneV, intOp, goI, splice, sBuild, fillE, nilB, isNil, Nat.reduceEqDiff, Nat.reduceAdd, Nat.reduceLT, Nat.reduceLeDiff, Int.reduceNeg, Int.reduceToNat, reduceCtorEq, decide_true, decide_false, S_gerundref09_term, encG, encS]
  refine LoopG.intro (fun k T _ => ∃ i : Nat, i + k = g.terms.length ∧ idxS s ((g.terms.drop i).map Term.name) i = termI g s ∧ T 1 = gs s ∧ T 2 = .fptr (encG g) 0 ∧ T 5 = gi i) g.terms.length ?_ ?_
  · exact ⟨0, by omega, rfl, rfl, rfl, rfl⟩
  · rintro k T H' ⟨i, hk, hi, h1, h2, h5⟩
    simp (disch := omega) only [↓wr, ↓reduceIte, wq, eq_self, ne_eq, implies_true, oneV, intOp, goI, splice, sBuild, fillE, nilB, isNil, Nat.reduceEqDiff, Nat.reduceAdd, Nat.reduceLT, Nat.reduceLeDiff, Int.reduceNeg, Int.reduceToNat, reduceCtorEq, decide_true, decide_false, B_gerundref09_term_0, h1, h2, h5, encG]
    refine GoB.dec (fun hc => ?_) (fun hc => ?_)
    · have hg2 : g.terms[i]? = some (g.terms[i]'(by omega)) := List.getElem?_eq_getElem (by omega)
      rw [drop_at (show i < g.terms.length by omega)] at hi
      generalize g.terms[i]'(by omega) = t at hg2 hi
      simp only [List.map_cons, idxS] at hi
      simp (disch := omega) only [↓wr, ↓reduceIte, wq, eq_self, ne_eq, implies_true, oneV, intOp, goI, splice, sBuild, fillE, nilB, isNil, Nat.reduceEqDiff, Nat.reduceAdd, Nat.reduceLT, Nat.reduceLeDiff, Int.reduceNeg, Int.reduceToNat, reduceCtorEq, decide_true, decide_false, h1, h2, h5, encG, encT, List.getElem?_map, hg2, Option.map_some]
      refine GoB.split (fun hd => ?_) (fun hd => ?_)
      · rw [if_pos hd] at hi
        simp (disch := omega) only [↓wr, ↓reduceIte, wq, eq_self, ne_eq, implies_true, oneV, intOp, goI, splice, sBuild, fillE, nilB, isNil, Nat.reduceEqDiff, Nat.reduceAdd, Nat.reduceLT, Nat.reduceLeDiff, Int.reduceNeg, Int.reduceToNat, reduceCtorEq, decide_true, decide_false, h1, h2, h5]
        rw [hi]
      · rw [hd, if_neg (by simp)] at hi
        simp (disch := omega) only [↓wr, ↓reduceIte, wq, eq_self, ne_eq, implies_true, oneV, intOp, goI, splice, sBuild, fillE, nilB, isNil, Nat.reduceEqDiff, Nat.reduceAdd, Nat.reduceLT, Nat.reduceLeDiff, Int.reduceNeg, Int.reduceToNat, reduceCtorEq, decide_true, decide_false, h1, h2, h5]
        exact ⟨k - 1, by omega, i + 1, by omega, by push_cast; exact hi, rfl, rfl⟩
    · rw [List.drop_eq_nil_of_le (by omega)] at hi
      simp only [List.map_nil, idxS] at hi
      simp (disch := omega) only [↓wr, ↓reduceIte, wq, eq_self, ne_eq, implies_true, oneV, intOp, goI, splice, sBuild, fillE, nilB, isNil, Nat.reduceEqDiff, Nat.reduceAdd, Nat.reduceLT, Nat.reduceLeDiff, Int.reduceNeg, Int.reduceToNat, reduceCtorEq, decide_true, decide_false, h1, h2, h5]
      rw [hi]

theorem pc_term09 (g : Gram) (hg : g.Ok) (s : ByteArray) : PCall Tryz.prog 84 [.agg (encG g), gs s] (gi (termI g s)) := PCall.val (gs_trees g s) (mc_term09 g hg s)

theorem mc_non09 (g : Gram) (hg : g.Ok) (s : ByteArray) (H : View) : MCall Tryz.prog 87 [.agg (encG g), gs s] H fun r _ => r = gi (nonI g s) := by
  refine MCall.of mixed S_gerundref09_non_ok ?_
  have hs : g.nons.length < 4611686018427387904 := hg.nons
  simp (disch := omega) only [↓wr, ↓reduceIte, wq, eq_self, ne_eq, implies_true, oneV, intOp, goI, splice, sBuild, fillE, nilB, isNil, Nat.reduceEqDiff, Nat.reduceAdd, Nat.reduceLT, Nat.reduceLeDiff, Int.reduceNeg, Int.reduceToNat, reduceCtorEq, decide_true, decide_false, S_gerundref09_non, encG, encS]
  refine LoopG.intro (fun k T _ => ∃ i : Nat, i + k = g.nons.length ∧ idxS s (g.nons.drop i) i = nonI g s ∧ T 1 = gs s ∧ T 2 = .fptr (encG g) 0 ∧ T 5 = gi i) g.nons.length ?_ ?_
  · exact ⟨0, by omega, rfl, rfl, rfl, rfl⟩
  · rintro k T H' ⟨i, hk, hi, h1, h2, h5⟩
    simp (disch := omega) only [↓wr, ↓reduceIte, wq, eq_self, ne_eq, implies_true, oneV, intOp, goI, splice, sBuild, fillE, nilB, isNil, Nat.reduceEqDiff, Nat.reduceAdd, Nat.reduceLT, Nat.reduceLeDiff, Int.reduceNeg, Int.reduceToNat, reduceCtorEq, decide_true, decide_false, B_gerundref09_non_0, h1, h2, h5, encG, encS]
    refine GoB.dec (fun hc => ?_) (fun hc => ?_)
    · have hg2 : g.nons[i]? = some (g.nons[i]'(by omega)) := List.getElem?_eq_getElem (by omega)
      rw [drop_at (show i < g.nons.length by omega)] at hi
      generalize g.nons[i]'(by omega) = t at hg2 hi
      simp only [List.map_cons, idxS] at hi
      simp (disch := omega) only [↓wr, ↓reduceIte, wq, eq_self, ne_eq, implies_true, oneV, intOp, goI, splice, sBuild, fillE, nilB, isNil, Nat.reduceEqDiff, Nat.reduceAdd, Nat.reduceLT, Nat.reduceLeDiff, Int.reduceNeg, Int.reduceToNat, reduceCtorEq, decide_true, decide_false, h1, h2, h5, encG, encS, List.getElem?_map, hg2, Option.map_some]
      refine GoB.split (fun hd => ?_) (fun hd => ?_)
      · rw [if_pos hd] at hi
        simp (disch := omega) only [↓wr, ↓reduceIte, wq, eq_self, ne_eq, implies_true, oneV, intOp, goI, splice, sBuild, fillE, nilB, isNil, Nat.reduceEqDiff, Nat.reduceAdd, Nat.reduceLT, Nat.reduceLeDiff, Int.reduceNeg, Int.reduceToNat, reduceCtorEq, decide_true, decide_false, h1, h2, h5]
        rw [hi]
      · rw [hd, if_neg (by simp)] at hi
        simp (disch := omega) only [↓wr, ↓reduceIte, wq, eq_self, ne_eq, implies_true, oneV, intOp, goI, splice, sBuild, fillE, nilB, isNil, Nat.reduceEqDiff, Nat.reduceAdd, Nat.reduceLT, Nat.reduceLeDiff, Int.reduceNeg, Int.reduceToNat, reduceCtorEq, decide_true, decide_false, h1, h2, h5]
        exact ⟨k - 1, by omega, i + 1, by omega, by push_cast; exact hi, rfl, rfl⟩
    · rw [List.drop_eq_nil_of_le (by omega)] at hi
      simp only [List.map_nil, idxS] at hi
      simp (disch := omega) only [↓wr, ↓reduceIte, wq, eq_self, ne_eq, implies_true, oneV, intOp, goI, splice, sBuild, fillE, nilB, isNil, Nat.reduceEqDiff, Nat.reduceAdd, Nat.reduceLT, Nat.reduceLeDiff, Int.reduceNeg, Int.reduceToNat, reduceCtorEq, decide_true, decide_false, h1, h2, h5]
      rw [hi]

theorem pc_non09 (g : Gram) (hg : g.Ok) (s : ByteArray) : PCall Tryz.prog 87 [.agg (encG g), gs s] (gi (nonI g s)) := PCall.val (gs_trees g s) (mc_non09 g hg s)

/-- The way to associate of a level's terminals; none: there are two. -/
def levelW (n : Int) : List Term → Int → Option Int
  | [], way => some way
  | t :: r, way => if t.level = n then (if way ≠ 0 ∧ way ≠ t.assoc then none else levelW n r t.assoc) else levelW n r way
def levelB (l : List Term) (n : Int) : Bool := match levelW n l 0 with
  | some w => w != 0
  | none => false

theorem mc_level09 (g : Gram) (hg : g.Ok) (n : Int) (H : View) : MCall Tryz.prog 85 [.agg (encG g), gi n] H fun r _ => r = gb (levelB g.terms n) := by
  refine MCall.of mixed S_gerundref09_level_ok ?_
  have hs : g.terms.length < 4611686018427387904 := hg.terms
  simp (disch := omega) only [↓wr, ↓reduceIte, wq, eq_self, ne_eq, implies_true, oneV, intOp, goI, splice, sBuild, fillE, nilB, isNil, Nat.reduceEqDiff, Nat.reduceAdd, Nat.reduceLT, Nat.reduceLeDiff, Int.reduceNeg, Int.reduceToNat, reduceCtorEq, decide_true, decide_false, S_gerundref09_level, encG, encS]
  refine LoopG.intro (fun k T _ => ∃ (i : Nat) (w : Int), i + k = g.terms.length ∧ levelW n (g.terms.drop i) w = levelW n g.terms 0 ∧ T 1 = gi n ∧ T 2 = .fptr (encG g) 0 ∧ T 5 = gi w ∧ T 6 = gi i) g.terms.length ?_ ?_
  · exact ⟨0, 0, by omega, rfl, rfl, rfl, rfl, rfl⟩
  · rintro k T H' ⟨i, w, hk, hi, h1, h2, h5, h6⟩
    simp (disch := omega) only [↓wr, ↓reduceIte, wq, eq_self, ne_eq, implies_true, oneV, intOp, goI, splice, sBuild, fillE, nilB, isNil, Nat.reduceEqDiff, Nat.reduceAdd, Nat.reduceLT, Nat.reduceLeDiff, Int.reduceNeg, Int.reduceToNat, reduceCtorEq, decide_true, decide_false, B_gerundref09_level_0, h1, h2, h5, h6, encG]
    refine GoB.dec (fun hc => ?_) (fun hc => ?_)
    · have hg2 : g.terms[i]? = some (g.terms[i]'(by omega)) := List.getElem?_eq_getElem (by omega)
      rw [drop_at (show i < g.terms.length by omega)] at hi
      generalize g.terms[i]'(by omega) = t at hg2 hi
      simp only [levelW] at hi
      simp (disch := omega) only [↓wr, ↓reduceIte, wq, eq_self, ne_eq, implies_true, oneV, intOp, goI, splice, sBuild, fillE, nilB, isNil, Nat.reduceEqDiff, Nat.reduceAdd, Nat.reduceLT, Nat.reduceLeDiff, Int.reduceNeg, Int.reduceToNat, reduceCtorEq, decide_true, decide_false, h1, h2, h5, h6, encG, encT, List.getElem?_map, hg2, Option.map_some]
      intro m hm
      try simp (disch := omega) only [↓wr, ↓reduceIte, wq, eq_self, ne_eq, implies_true, oneV, intOp, goI, splice, sBuild, fillE, nilB, isNil, Nat.reduceEqDiff, Nat.reduceAdd, Nat.reduceLT, Nat.reduceLeDiff, Int.reduceNeg, Int.reduceToNat, reduceCtorEq, decide_true, decide_false, h1, h2, h5, h6]
      refine GoB.ne (fun hd => ?_) (fun hd => ?_)
      · rw [if_neg hd] at hi
        simp (disch := omega) only [↓wr, ↓reduceIte, wq, eq_self, ne_eq, implies_true, oneV, intOp, goI, splice, sBuild, fillE, nilB, isNil, Nat.reduceEqDiff, Nat.reduceAdd, Nat.reduceLT, Nat.reduceLeDiff, Int.reduceNeg, Int.reduceToNat, reduceCtorEq, decide_true, decide_false, h1, h2, h5, h6]
        exact ⟨k - 1, by omega, i + 1, w, by omega, hi, by first | rfl | exact ⟨rfl, rfl⟩ | exact ⟨rfl, rfl, rfl⟩⟩
      · rw [if_pos hd] at hi
        repeat' (first | (refine GoB.dec (fun _ => ?_) (fun _ => ?_)) | (refine GoB.eq (fun _ => ?_) (fun _ => ?_)) | (refine GoB.ne (fun _ => ?_) (fun _ => ?_)) | (refine GoB.split (fun _ => ?_) (fun _ => ?_)) | (simp (disch := omega) only [↓wr, ↓reduceIte, wq, eq_self, ne_eq, implies_true, oneV, intOp, goI, splice, sBuild, fillE, nilB, isNil, Nat.reduceEqDiff, Nat.reduceAdd, Nat.reduceLT, Nat.reduceLeDiff, Int.reduceNeg, Int.reduceToNat, reduceCtorEq, decide_true, decide_false, h1, h2, h5, h6]))
        · rename_i a b
          rw [if_pos ⟨a, b⟩] at hi
          simp only [levelB, ← hi]
        · rename_i a b
          rw [if_neg (fun e => e.2 b)] at hi
          exact ⟨k - 1, by omega, i + 1, _, by omega, hi, by first | rfl | exact ⟨rfl, rfl⟩ | exact ⟨rfl, rfl, rfl⟩⟩
        · rename_i a
          rw [if_neg (fun e => e.1 a)] at hi
          exact ⟨k - 1, by omega, i + 1, _, by omega, hi, by first | rfl | exact ⟨rfl, rfl⟩ | exact ⟨rfl, rfl, rfl⟩⟩
    · rw [List.drop_eq_nil_of_le (by omega)] at hi
      simp only [levelW] at hi
      simp (disch := omega) only [↓wr, ↓reduceIte, wq, eq_self, ne_eq, implies_true, oneV, intOp, goI, splice, sBuild, fillE, nilB, isNil, Nat.reduceEqDiff, Nat.reduceAdd, Nat.reduceLT, Nat.reduceLeDiff, Int.reduceNeg, Int.reduceToNat, reduceCtorEq, decide_true, decide_false, h1, h2, h5, h6]
      simp only [levelB, ← hi]

theorem pc_level09 (g : Gram) (hg : g.Ok) (n : Int) : PCall Tryz.prog 85 [.agg (encG g), gi n] (gb (levelB g.terms n)) := PCall.val (gi_trees g n) (mc_level09 g hg n)

end Gv

/-
  May a grammar be: what the document's functions answer.
  Conditions: lists that are no longer than an int says, numbers that are ints.
-/
set_option linter.unusedSimpArgs false
set_option maxRecDepth 100000
namespace Gv
open Go Go.Proofs

def lvlsB (g : Gram) (t : Term) : Bool := (List.range t.level.toNat).all fun k => levelB g.terms ((k : Int) + 1)
def termB (g : Gram) (i : Int) (t : Term) : Bool :=
  namedB (bts t.name) && (termI g t.name == i) && decide (0 ≤ t.level) && decide (t.level ≤ 24) && decide (0 ≤ t.assoc) && decide (t.assoc ≤ 3) && ((t.level == 0) == (t.assoc == 0)) && lvlsB g t
def termsL (g : Gram) : List Term → Int → Bool
  | [], _ => true
  | t :: r, i => termB g i t && termsL g r (i + 1)
def terms09 (g : Gram) : Bool := decide (g.terms.length ≤ 24) && termsL g g.terms 0

def B_gerundref09_terms_0 : SC :=
  .seq (.seq (.region false [⟨none, [((some 63), .op (.mov (.tmp 5))), ((some 64), .op (.addr 1 (.tmp 4))), ((some 65), .op (.load none (.tmp 64))), ((some 66), .op (.arith .leq (.tmp 63) (.tmp 65)))]⟩]) <|
  .cond (.tmp 66) (.skip) (.exit 2)) <|
  .seq (.block 3 (.seq (.region false [⟨none, [((some 69), .op (.load (some 4) (.tmp 1))), ((some 70), .op (.mov (.tmp 5))), ((some 71), .call (.val (.fn 85 [] [])) [(.tmp 69), (.tmp 70)]), ((some 72), .op (.not (.tmp 71)))]⟩]) <|
  .cond (.tmp 72) (.seq (.region false [⟨none, [((some 2), .op (.mov (.val (.val (.bool false)))))]⟩]) <|
  .ret) (.skip))) <|
  .region false [⟨none, [((some 67), .op (.mov (.tmp 5))), ((some 68), .op (.arith .add (.tmp 67) (.val (.val (.int .i64 1))))), ((some 5), .op (.mov (.tmp 68)))]⟩]
def B_gerundref09_terms_1 : SC :=
  .seq (.seq (.region false [⟨none, [((some 10), .op (.mov (.tmp 3))), ((some 11), .op (.addr 0 (.tmp 1))), ((some 12), .op (.load none (.tmp 11))), ((some 13), .op (.len (.tmp 12))), ((some 14), .op (.arith .lss (.tmp 10) (.tmp 13)))]⟩]) <|
  .cond (.tmp 14) (.skip) (.exit 0)) <|
  .seq (.block 1 (.seq (.region false [⟨none, [((some 17), .op (.addr 0 (.tmp 1))), ((some 18), .op (.load none (.tmp 17))), ((some 19), .op (.mov (.tmp 3))), ((some 20), .op (.idx 3 (.tmp 18) (.tmp 19))), ((some 21), .op (.load (some 3) (.tmp 20))), ((some 4), .op (.alloc [(.val (.string ⟨#[]⟩)), (.val (.int .i64 0)), (.val (.int .i64 0))])), (none, .op (.store 3 (.tmp 4) (.tmp 21)))]⟩]) <|
  .seq (.seq (.region false [⟨none, [((some 22), .op (.addr 0 (.tmp 4))), ((some 23), .op (.load none (.tmp 22))), ((some 24), .call (.val (.fn 83 [] [])) [(.tmp 23)]), ((some 25), .op (.not (.tmp 24))), ((some 26), .op (.mov (.tmp 25)))]⟩, ⟨(some (26, false)), [((some 27), .op (.load (some 4) (.tmp 1))), ((some 28), .op (.addr 0 (.tmp 4))), ((some 29), .op (.load none (.tmp 28))), ((some 30), .call (.val (.fn 84 [] [])) [(.tmp 27), (.tmp 29)]), ((some 31), .op (.mov (.tmp 3))), ((some 32), .op (.arith .neq (.tmp 30) (.tmp 31)))]⟩, ⟨none, [((some 33), .op (.pick (.tmp 26) (.val (.val (.bool true))) (.tmp 32))), ((some 34), .op (.mov (.tmp 33)))]⟩, ⟨(some (34, false)), [((some 35), .op (.addr 1 (.tmp 4))), ((some 36), .op (.load none (.tmp 35))), ((some 37), .op (.arith .lss (.tmp 36) (.val (.val (.int .i64 0)))))]⟩, ⟨none, [((some 38), .op (.pick (.tmp 34) (.val (.val (.bool true))) (.tmp 37))), ((some 39), .op (.mov (.tmp 38)))]⟩, ⟨(some (39, false)), [((some 40), .op (.addr 1 (.tmp 4))), ((some 41), .op (.load none (.tmp 40))), ((some 42), .op (.arith .gtr (.tmp 41) (.val (.val (.int .i64 24)))))]⟩, ⟨none, [((some 43), .op (.pick (.tmp 39) (.val (.val (.bool true))) (.tmp 42))), ((some 44), .op (.mov (.tmp 43)))]⟩, ⟨(some (44, false)), [((some 45), .op (.addr 2 (.tmp 4))), ((some 46), .op (.load none (.tmp 45))), ((some 47), .op (.arith .lss (.tmp 46) (.val (.val (.int .i64 0)))))]⟩, ⟨none, [((some 48), .op (.pick (.tmp 44) (.val (.val (.bool true))) (.tmp 47))), ((some 49), .op (.mov (.tmp 48)))]⟩, ⟨(some (49, false)), [((some 50), .op (.addr 2 (.tmp 4))), ((some 51), .op (.load none (.tmp 50))), ((some 52), .op (.arith .gtr (.tmp 51) (.val (.val (.int .i64 3)))))]⟩, ⟨none, [((some 53), .op (.pick (.tmp 49) (.val (.val (.bool true))) (.tmp 52))), ((some 54), .op (.mov (.tmp 53)))]⟩, ⟨(some (54, false)), [((some 55), .op (.addr 1 (.tmp 4))), ((some 56), .op (.load none (.tmp 55))), ((some 57), .op (.arith .eql (.tmp 56) (.val (.val (.int .i64 0))))), ((some 58), .op (.addr 2 (.tmp 4))), ((some 59), .op (.load none (.tmp 58))), ((some 60), .op (.arith .eql (.tmp 59) (.val (.val (.int .i64 0))))), ((some 61), .op (.beq false (.tmp 57) (.tmp 60)))]⟩, ⟨none, [((some 62), .op (.pick (.tmp 54) (.val (.val (.bool true))) (.tmp 61)))]⟩]) <|
  .cond (.tmp 62) (.seq (.region false [⟨none, [((some 2), .op (.mov (.val (.val (.bool false)))))]⟩]) <|
  .ret) (.skip)) <|
  .seq (.region false [⟨none, [((some 5), .op (.mov (.val (.val (.int .i64 1)))))]⟩]) <|
  .block 2 (.loop B_gerundref09_terms_0))) <|
  .region false [⟨none, [((some 15), .op (.mov (.tmp 3))), ((some 16), .op (.arith .add (.tmp 15) (.val (.val (.int .i64 1))))), ((some 3), .op (.mov (.tmp 16)))]⟩]
def S_gerundref09_terms : SF := ⟨.seq (.region false [⟨none, [((some 1), .op (.frz (.tmp 0))), ((some 2), .op (.mov (.val (.val (.bool false)))))]⟩]) <|
  .seq (.seq (.region false [⟨none, [((some 6), .op (.addr 0 (.tmp 1))), ((some 7), .op (.load none (.tmp 6))), ((some 8), .op (.len (.tmp 7))), ((some 9), .op (.arith .gtr (.tmp 8) (.val (.val (.int .i64 24)))))]⟩]) <|
  .cond (.tmp 9) (.seq (.region false [⟨none, [((some 2), .op (.mov (.val (.val (.bool false)))))]⟩]) <|
  .ret) (.skip)) <|
  .seq (.seq (.region false [⟨none, [((some 3), .op (.mov (.val (.val (.int .i64 0)))))]⟩]) <|
  .block 0 (.loop B_gerundref09_terms_1)) <|
  .seq (.region false [⟨none, [((some 2), .op (.mov (.val (.val (.bool true)))))]⟩]) <|
  .ret,
  [.tmp 2], 73⟩
theorem S_gerundref09_terms_ok : compF Tryz.prog 54 [1] = some S_gerundref09_terms := by kernel_rfl

def B_gerundref09_nons_0 : SC :=
  .seq (.seq (.region false [⟨none, [((some 14), .op (.mov (.tmp 3))), ((some 15), .op (.addr 1 (.tmp 1))), ((some 16), .op (.load none (.tmp 15))), ((some 17), .op (.len (.tmp 16))), ((some 18), .op (.arith .lss (.tmp 14) (.tmp 17)))]⟩]) <|
  .cond (.tmp 18) (.skip) (.exit 0)) <|
  .seq (.block 1 (.seq (.region false [⟨none, [((some 21), .op (.addr 1 (.tmp 1))), ((some 22), .op (.load none (.tmp 21))), ((some 23), .op (.mov (.tmp 3))), ((some 24), .op (.idx 1 (.tmp 22) (.tmp 23))), ((some 25), .op (.load none (.tmp 24))), ((some 26), .call (.val (.fn 86 [] [])) [(.tmp 25)]), ((some 27), .op (.not (.tmp 26))), ((some 28), .op (.mov (.tmp 27)))]⟩, ⟨(some (28, false)), [((some 29), .op (.load (some 4) (.tmp 1))), ((some 30), .op (.addr 1 (.tmp 1))), ((some 31), .op (.load none (.tmp 30))), ((some 32), .op (.mov (.tmp 3))), ((some 33), .op (.idx 1 (.tmp 31) (.tmp 32))), ((some 34), .op (.load none (.tmp 33))), ((some 35), .call (.val (.fn 87 [] [])) [(.tmp 29), (.tmp 34)]), ((some 36), .op (.mov (.tmp 3))), ((some 37), .op (.arith .neq (.tmp 35) (.tmp 36)))]⟩, ⟨none, [((some 38), .op (.pick (.tmp 28) (.val (.val (.bool true))) (.tmp 37))), ((some 39), .op (.mov (.tmp 38)))]⟩, ⟨(some (39, false)), [((some 40), .op (.load (some 4) (.tmp 1))), ((some 41), .op (.addr 1 (.tmp 1))), ((some 42), .op (.load none (.tmp 41))), ((some 43), .op (.mov (.tmp 3))), ((some 44), .op (.idx 1 (.tmp 42) (.tmp 43))), ((some 45), .op (.load none (.tmp 44))), ((some 46), .call (.val (.fn 84 [] [])) [(.tmp 40), (.tmp 45)]), ((some 47), .op (.arith .geq (.tmp 46) (.val (.val (.int .i64 0)))))]⟩, ⟨none, [((some 48), .op (.pick (.tmp 39) (.val (.val (.bool true))) (.tmp 47)))]⟩]) <|
  .cond (.tmp 48) (.seq (.region false [⟨none, [((some 2), .op (.mov (.val (.val (.bool false)))))]⟩]) <|
  .ret) (.skip))) <|
  .region false [⟨none, [((some 19), .op (.mov (.tmp 3))), ((some 20), .op (.arith .add (.tmp 19) (.val (.val (.int .i64 1))))), ((some 3), .op (.mov (.tmp 20)))]⟩]
def S_gerundref09_nons : SF := ⟨.seq (.region false [⟨none, [((some 1), .op (.frz (.tmp 0))), ((some 2), .op (.mov (.val (.val (.bool false)))))]⟩]) <|
  .seq (.seq (.region false [⟨none, [((some 4), .op (.addr 1 (.tmp 1))), ((some 5), .op (.load none (.tmp 4))), ((some 6), .op (.len (.tmp 5))), ((some 7), .op (.arith .lss (.tmp 6) (.val (.val (.int .i64 1))))), ((some 8), .op (.mov (.tmp 7)))]⟩, ⟨(some (8, false)), [((some 9), .op (.addr 1 (.tmp 1))), ((some 10), .op (.load none (.tmp 9))), ((some 11), .op (.len (.tmp 10))), ((some 12), .op (.arith .gtr (.tmp 11) (.val (.val (.int .i64 16)))))]⟩, ⟨none, [((some 13), .op (.pick (.tmp 8) (.val (.val (.bool true))) (.tmp 12)))]⟩]) <|
  .cond (.tmp 13) (.seq (.region false [⟨none, [((some 2), .op (.mov (.val (.val (.bool false)))))]⟩]) <|
  .ret) (.skip)) <|
  .seq (.seq (.region false [⟨none, [((some 3), .op (.mov (.val (.val (.int .i64 0)))))]⟩]) <|
  .block 0 (.loop B_gerundref09_nons_0)) <|
  .seq (.region false [⟨none, [((some 2), .op (.mov (.val (.val (.bool true)))))]⟩]) <|
  .ret,
  [.tmp 2], 49⟩
theorem S_gerundref09_nons_ok : compF Tryz.prog 55 [1] = some S_gerundref09_nons := by kernel_rfl

def B_gerundref09_rule_0 : SC :=
  .seq (.seq (.region false [⟨none, [((some 23), .op (.mov (.tmp 5))), ((some 24), .op (.addr 1 (.tmp 3))), ((some 25), .op (.load none (.tmp 24))), ((some 26), .op (.len (.tmp 25))), ((some 27), .op (.arith .lss (.tmp 23) (.tmp 26)))]⟩]) <|
  .cond (.tmp 27) (.skip) (.exit 0)) <|
  .seq (.block 1 (.seq (.region false [⟨none, [((some 30), .op (.load (some 4) (.tmp 2))), ((some 31), .op (.addr 1 (.tmp 3))), ((some 32), .op (.load none (.tmp 31))), ((some 33), .op (.mov (.tmp 5))), ((some 34), .op (.idx 1 (.tmp 32) (.tmp 33))), ((some 35), .op (.load none (.tmp 34))), ((some 36), .call (.val (.fn 30 [] [])) [(.tmp 30), (.tmp 35)]), ((some 37), .op (.not (.tmp 36))), ((some 38), .op (.mov (.tmp 37)))]⟩, ⟨(some (38, false)), [((some 39), .op (.addr 1 (.tmp 3))), ((some 40), .op (.load none (.tmp 39))), ((some 41), .op (.mov (.tmp 5))), ((some 42), .op (.idx 1 (.tmp 40) (.tmp 41))), ((some 43), .op (.load none (.tmp 42))), ((some 44), .op (.arith .geq (.tmp 43) (.val (.val (.int .i64 0))))), ((some 45), .op (.mov (.tmp 44)))]⟩, ⟨(some (45, true)), [((some 46), .op (.addr 2 (.tmp 3))), ((some 47), .op (.load none (.tmp 46))), ((some 48), .op (.arith .eql (.tmp 47) (.val (.val (.int .i64 (-1))))))]⟩, ⟨(some (38, false)), [((some 49), .op (.pick (.tmp 45) (.tmp 48) (.val (.val (.bool false)))))]⟩, ⟨none, [((some 50), .op (.pick (.tmp 38) (.val (.val (.bool true))) (.tmp 49)))]⟩]) <|
  .cond (.tmp 50) (.seq (.region false [⟨none, [((some 4), .op (.mov (.val (.val (.bool false)))))]⟩]) <|
  .ret) (.skip))) <|
  .region false [⟨none, [((some 28), .op (.mov (.tmp 5))), ((some 29), .op (.arith .add (.tmp 28) (.val (.val (.int .i64 1))))), ((some 5), .op (.mov (.tmp 29)))]⟩]
def S_gerundref09_rule : SF := ⟨.seq (.region false [⟨none, [((some 2), .op (.frz (.tmp 0))), ((some 3), .op (.frz (.tmp 1))), ((some 4), .op (.mov (.val (.val (.bool false)))))]⟩]) <|
  .seq (.seq (.region false [⟨none, [((some 6), .op (.addr 1 (.tmp 3))), ((some 7), .op (.load none (.tmp 6))), ((some 8), .op (.len (.tmp 7))), ((some 9), .op (.arith .gtr (.tmp 8) (.val (.val (.int .i64 6))))), ((some 10), .op (.mov (.tmp 9)))]⟩, ⟨(some (10, false)), [((some 11), .op (.addr 2 (.tmp 3))), ((some 12), .op (.load none (.tmp 11))), ((some 13), .op (.arith .lss (.tmp 12) (.val (.val (.int .i64 (-1))))))]⟩, ⟨none, [((some 14), .op (.pick (.tmp 10) (.val (.val (.bool true))) (.tmp 13))), ((some 15), .op (.mov (.tmp 14)))]⟩, ⟨(some (15, false)), [((some 16), .op (.addr 2 (.tmp 3))), ((some 17), .op (.load none (.tmp 16))), ((some 18), .op (.addr 0 (.tmp 2))), ((some 19), .op (.load none (.tmp 18))), ((some 20), .op (.len (.tmp 19))), ((some 21), .op (.arith .geq (.tmp 17) (.tmp 20)))]⟩, ⟨none, [((some 22), .op (.pick (.tmp 15) (.val (.val (.bool true))) (.tmp 21)))]⟩]) <|
  .cond (.tmp 22) (.seq (.region false [⟨none, [((some 4), .op (.mov (.val (.val (.bool false)))))]⟩]) <|
  .ret) (.skip)) <|
  .seq (.seq (.region false [⟨none, [((some 5), .op (.mov (.val (.val (.int .i64 0)))))]⟩]) <|
  .block 0 (.loop B_gerundref09_rule_0)) <|
  .seq (.region false [⟨none, [((some 4), .op (.mov (.val (.val (.bool true)))))]⟩]) <|
  .ret,
  [.tmp 4], 51⟩
theorem S_gerundref09_rule_ok : compF Tryz.prog 56 [2, 3] = some S_gerundref09_rule := by kernel_rfl

def B_gerundref09_Right_0 : SC :=
  .seq (.seq (.region false [⟨none, [((some 39), .op (.mov (.tmp 4))), ((some 40), .op (.addr 2 (.tmp 1))), ((some 41), .op (.load none (.tmp 40))), ((some 42), .op (.len (.tmp 41))), ((some 43), .op (.arith .lss (.tmp 39) (.tmp 42)))]⟩]) <|
  .cond (.tmp 43) (.skip) (.exit 0)) <|
  .seq (.block 1 (.seq (.region false [⟨none, [((some 46), .op (.addr 2 (.tmp 1))), ((some 47), .op (.load none (.tmp 46))), ((some 48), .op (.mov (.tmp 4))), ((some 49), .op (.idx 3 (.tmp 47) (.tmp 48))), ((some 50), .op (.load (some 3) (.tmp 49))), ((some 5), .op (.alloc [(.val (.int .i64 0)), (.emp 1), (.val (.int .i64 0))])), (none, .op (.store 3 (.tmp 5) (.tmp 50)))]⟩]) <|
  .seq (.seq (.region false [⟨none, [((some 51), .op (.addr 0 (.tmp 5))), ((some 52), .op (.load none (.tmp 51))), ((some 53), .op (.arith .lss (.tmp 52) (.val (.val (.int .i64 0))))), ((some 54), .op (.mov (.tmp 53)))]⟩, ⟨(some (54, false)), [((some 55), .op (.addr 0 (.tmp 5))), ((some 56), .op (.load none (.tmp 55))), ((some 57), .op (.mov (.tmp 3))), ((some 58), .op (.arith .add (.tmp 57) (.val (.val (.int .i64 1))))), ((some 59), .op (.arith .gtr (.tmp 56) (.tmp 58)))]⟩, ⟨none, [((some 60), .op (.pick (.tmp 54) (.val (.val (.bool true))) (.tmp 59))), ((some 61), .op (.mov (.tmp 60)))]⟩, ⟨(some (61, false)), [((some 62), .op (.load (some 4) (.tmp 1))), ((some 63), .op (.load (some 3) (.tmp 5))), ((some 64), .call (.val (.fn 56 [] [])) [(.tmp 62), (.tmp 63)]), ((some 65), .op (.not (.tmp 64)))]⟩, ⟨none, [((some 66), .op (.pick (.tmp 61) (.val (.val (.bool true))) (.tmp 65)))]⟩]) <|
  .cond (.tmp 66) (.seq (.region false [⟨none, [((some 2), .op (.mov (.val (.val (.bool false)))))]⟩]) <|
  .ret) (.skip)) <|
  .seq (.region false [⟨none, [((some 67), .op (.addr 0 (.tmp 5))), ((some 68), .op (.load none (.tmp 67))), ((some 69), .op (.mov (.tmp 3))), ((some 70), .op (.arith .gtr (.tmp 68) (.tmp 69)))]⟩]) <|
  .cond (.tmp 70) (.region false [⟨none, [((some 71), .op (.addr 0 (.tmp 5))), ((some 72), .op (.load none (.tmp 71))), ((some 3), .op (.mov (.tmp 72)))]⟩]) (.skip))) <|
  .region false [⟨none, [((some 44), .op (.mov (.tmp 4))), ((some 45), .op (.arith .add (.tmp 44) (.val (.val (.int .i64 1))))), ((some 4), .op (.mov (.tmp 45)))]⟩]
def S_gerundref09_Right : SF := ⟨.seq (.region false [⟨none, [((some 1), .op (.frz (.tmp 0))), ((some 2), .op (.mov (.val (.val (.bool false)))))]⟩]) <|
  .seq (.seq (.region false [⟨none, [((some 6), .op (.load (some 4) (.tmp 1))), ((some 7), .call (.val (.fn 54 [] [])) [(.tmp 6)]), ((some 8), .op (.not (.tmp 7))), ((some 9), .op (.mov (.tmp 8)))]⟩, ⟨(some (9, false)), [((some 10), .op (.load (some 4) (.tmp 1))), ((some 11), .call (.val (.fn 55 [] [])) [(.tmp 10)]), ((some 12), .op (.not (.tmp 11)))]⟩, ⟨none, [((some 13), .op (.pick (.tmp 9) (.val (.val (.bool true))) (.tmp 12))), ((some 14), .op (.mov (.tmp 13)))]⟩, ⟨(some (14, false)), [((some 15), .op (.addr 2 (.tmp 1))), ((some 16), .op (.load none (.tmp 15))), ((some 17), .op (.len (.tmp 16))), ((some 18), .op (.arith .lss (.tmp 17) (.val (.val (.int .i64 1)))))]⟩, ⟨none, [((some 19), .op (.pick (.tmp 14) (.val (.val (.bool true))) (.tmp 18))), ((some 20), .op (.mov (.tmp 19)))]⟩, ⟨(some (20, false)), [((some 21), .op (.addr 2 (.tmp 1))), ((some 22), .op (.load none (.tmp 21))), ((some 23), .op (.len (.tmp 22))), ((some 24), .op (.arith .gtr (.tmp 23) (.val (.val (.int .i64 40)))))]⟩, ⟨none, [((some 25), .op (.pick (.tmp 20) (.val (.val (.bool true))) (.tmp 24))), ((some 26), .op (.mov (.tmp 25)))]⟩, ⟨(some (26, false)), [((some 27), .op (.addr 3 (.tmp 1))), ((some 28), .op (.load none (.tmp 27))), ((some 29), .op (.arith .lss (.tmp 28) (.val (.val (.int .i64 0)))))]⟩, ⟨none, [((some 30), .op (.pick (.tmp 26) (.val (.val (.bool true))) (.tmp 29))), ((some 31), .op (.mov (.tmp 30)))]⟩, ⟨(some (31, false)), [((some 32), .op (.addr 3 (.tmp 1))), ((some 33), .op (.load none (.tmp 32))), ((some 34), .op (.addr 1 (.tmp 1))), ((some 35), .op (.load none (.tmp 34))), ((some 36), .op (.len (.tmp 35))), ((some 37), .op (.arith .geq (.tmp 33) (.tmp 36)))]⟩, ⟨none, [((some 38), .op (.pick (.tmp 31) (.val (.val (.bool true))) (.tmp 37)))]⟩]) <|
  .cond (.tmp 38) (.seq (.region false [⟨none, [((some 2), .op (.mov (.val (.val (.bool false)))))]⟩]) <|
  .ret) (.skip)) <|
  .seq (.region false [⟨none, [((some 3), .op (.mov (.val (.val (.int .i64 (-1))))))]⟩]) <|
  .seq (.seq (.region false [⟨none, [((some 4), .op (.mov (.val (.val (.int .i64 0)))))]⟩]) <|
  .block 0 (.loop B_gerundref09_Right_0)) <|
  .seq (.region false [⟨none, [((some 73), .op (.mov (.tmp 3))), ((some 74), .op (.addr 1 (.tmp 1))), ((some 75), .op (.load none (.tmp 74))), ((some 76), .op (.len (.tmp 75))), ((some 77), .op (.arith .sub (.tmp 76) (.val (.val (.int .i64 1))))), ((some 78), .op (.arith .eql (.tmp 73) (.tmp 77))), ((some 2), .op (.mov (.tmp 78)))]⟩]) <|
  .ret,
  [.tmp 2], 79⟩
theorem S_gerundref09_Right_ok : compF Tryz.prog 28 [1] = some S_gerundref09_Right := by kernel_rfl

set_option maxHeartbeats 2000000 in
theorem mc_terms09 (g : Gram) (hg : g.Ok) (H : View) : MCall Tryz.prog 54 [.agg (encG g)] H fun r _ => r = gb (terms09 g) := by
  refine MCall.of mixed S_gerundref09_terms_ok ?_
  simp (disch := omega) only [↓wr, ↓reduceIte, wq, eq_self, ne_eq, implies_true, oneV, intOp, goI, splice, sBuild, fillE, nilB, isNil, Nat.reduceEqDiff, Nat.reduceAdd, Nat.reduceLT, Nat.reduceLeDiff, Int.reduceNeg, Int.reduceToNat, reduceCtorEq, decide_true, decide_false, S_gerundref09_terms, encG, encS]
  refine GoB.dec (fun h => ?_) (fun h => ?_)
  · simp (disch := omega) only [↓wr, ↓reduceIte, wq, eq_self, ne_eq, implies_true, oneV, intOp, goI, splice, sBuild, fillE, nilB, isNil, Nat.reduceEqDiff, Nat.reduceAdd, Nat.reduceLT, Nat.reduceLeDiff, Int.reduceNeg, Int.reduceToNat, reduceCtorEq, decide_true, decide_false]
    simp [terms09, show ¬ g.terms.length ≤ 24 by omega]
  · have hle : g.terms.length ≤ 24 := by omega
    simp (disch := omega) only [↓wr, ↓reduceIte, wq, eq_self, ne_eq, implies_true, oneV, intOp, goI, splice, sBuild, fillE, nilB, isNil, Nat.reduceEqDiff, Nat.reduceAdd, Nat.reduceLT, Nat.reduceLeDiff, Int.reduceNeg, Int.reduceToNat, reduceCtorEq, decide_true, decide_false]
    refine LoopG.intro (fun k T _ => ∃ i : Nat, i + k = g.terms.length ∧ termsL g (g.terms.drop i) i = termsL g g.terms 0 ∧ T 1 = .fptr (encG g) 0 ∧ T 3 = gi i) g.terms.length ?_ ?_
    · exact ⟨0, by omega, rfl, rfl, rfl⟩
    · rintro k T H' ⟨i, hk, hi, h1, h3⟩
      simp (disch := omega) only [↓wr, ↓reduceIte, wq, eq_self, ne_eq, implies_true, oneV, intOp, goI, splice, sBuild, fillE, nilB, isNil, Nat.reduceEqDiff, Nat.reduceAdd, Nat.reduceLT, Nat.reduceLeDiff, Int.reduceNeg, Int.reduceToNat, reduceCtorEq, decide_true, decide_false, B_gerundref09_terms_1, h1, h3, encG]
      refine GoB.dec (fun hc => ?_) (fun hc => ?_)
      · have hg2 : g.terms[i]? = some (g.terms[i]'(by omega)) := List.getElem?_eq_getElem (by omega)
        rw [drop_at (show i < g.terms.length by omega)] at hi
        have hmem : g.terms[i]'(by omega) ∈ g.terms := List.getElem_mem _
        generalize g.terms[i]'(by omega) = t at hg2 hi hmem
        obtain ⟨⟨hl1, hl2⟩, ⟨ha1, ha2⟩⟩ := hg.term t hmem
        simp only [termsL] at hi
        have hbad : termB g i t = false → gb false = gb (terms09 g) := fun e => by rw [e, Bool.false_and] at hi; simp [terms09, ← hi]
        simp (disch := omega) only [↓wr, ↓reduceIte, wq, eq_self, ne_eq, implies_true, oneV, intOp, goI, splice, sBuild, fillE, nilB, isNil, Nat.reduceEqDiff, Nat.reduceAdd, Nat.reduceLT, Nat.reduceLeDiff, Int.reduceNeg, Int.reduceToNat, reduceCtorEq, decide_true, decide_false, h1, h3, encG, encT, List.getElem?_map, hg2, Option.map_some]
        intro m hm
        try simp (disch := omega) only [↓wr, ↓reduceIte, wq, eq_self, ne_eq, implies_true, oneV, intOp, goI, splice, sBuild, fillE, nilB, isNil, Nat.reduceEqDiff, Nat.reduceAdd, Nat.reduceLT, Nat.reduceLeDiff, Int.reduceNeg, Int.reduceToNat, reduceCtorEq, decide_true, decide_false, h1, h3]
        refine CallG.pure (pc_named09 t.name) (by kernel_rfl) ?_
        repeat' (first | (refine GoB.dec (fun _ => ?_) (fun _ => ?_)) | (refine GoB.eq (fun _ => ?_) (fun _ => ?_)) | (refine GoB.ne (fun _ => ?_) (fun _ => ?_)) | (refine GoB.split (fun _ => ?_) (fun _ => ?_)) | (simp (disch := omega) only [↓wr, ↓reduceIte, wq, eq_self, ne_eq, implies_true, oneV, intOp, goI, splice, sBuild, fillE, nilB, isNil, Nat.reduceEqDiff, Nat.reduceAdd, Nat.reduceLT, Nat.reduceLeDiff, Int.reduceNeg, Int.reduceToNat, reduceCtorEq, decide_true, decide_false, h1, h3, encG]))
        all_goals try (refine hbad ?_; simp [termB, *]; done)
        rename_i hnm
        refine CallG.pure (pc_term09 g hg t.name) (by kernel_rfl) ?_
        repeat' (first | (refine GoB.dec (fun _ => ?_) (fun _ => ?_)) | (refine GoB.eq (fun _ => ?_) (fun _ => ?_)) | (refine GoB.ne (fun _ => ?_) (fun _ => ?_)) | (refine GoB.split (fun _ => ?_) (fun _ => ?_)) | (simp (disch := omega) only [↓wr, ↓reduceIte, wq, eq_self, ne_eq, implies_true, oneV, intOp, goI, splice, sBuild, fillE, nilB, isNil, Nat.reduceEqDiff, Nat.reduceAdd, Nat.reduceLT, Nat.reduceLeDiff, Int.reduceNeg, Int.reduceToNat, reduceCtorEq, decide_true, decide_false, h1, h3, encG]))
        all_goals try (refine hbad ?_; simp [termB, *]; done)
        all_goals try (refine hbad ?_; simp [termB]; grind)
        rename_i e1 e2 e3 e4 e5 e6
        have hpre : termB g i t = lvlsB g t := by
          have e6' : ((t.level == 0) == (t.assoc == 0)) = true := by simpa using e6
          simp [termB, hnm, e1, e6', show (0 : Int) ≤ t.level by omega, show t.level ≤ 24 by omega, show (0 : Int) ≤ t.assoc by omega, show t.assoc ≤ 3 by omega]
        refine LoopG.intro (fun k' T H'' => ∃ j : Nat, 1 ≤ j ∧ j + k' = t.level.toNat + 1 ∧ (∀ q : Nat, q + 1 < j → levelB g.terms ((q : Int) + 1) = true) ∧ T 1 = .fptr (encG g) 0 ∧ T 3 = gi i ∧ T 4 = .ptr m 0 0 ∧ H'' m = .arr 3 [[gs t.name, gi t.level, gi t.assoc]] ∧ T 5 = gi j) t.level.toNat ?_ ?_
        · refine ⟨1, by omega, by omega, fun q hq => by omega, ?_⟩
          simp (disch := omega) only [↓wr, ↓reduceIte, wq, eq_self, ne_eq, implies_true, oneV, intOp, goI, splice, sBuild, fillE, nilB, isNil, Nat.reduceEqDiff, Nat.reduceAdd, Nat.reduceLT, Nat.reduceLeDiff, Int.reduceNeg, Int.reduceToNat, reduceCtorEq, decide_true, decide_false, h1, h3, encG]
          rfl
        · rintro k' T' H'' ⟨j, hj1, hj2, hj3, f1, f3, f4, fm, f5⟩
          simp (disch := omega) only [↓wr, ↓reduceIte, wq, eq_self, ne_eq, implies_true, oneV, intOp, goI, splice, sBuild, fillE, nilB, isNil, Nat.reduceEqDiff, Nat.reduceAdd, Nat.reduceLT, Nat.reduceLeDiff, Int.reduceNeg, Int.reduceToNat, reduceCtorEq, decide_true, decide_false, B_gerundref09_terms_0, f1, f3, f4, f5, fm]
          refine GoB.dec (fun hd => ?_) (fun hd => ?_)
          · simp (disch := omega) only [↓wr, ↓reduceIte, wq, eq_self, ne_eq, implies_true, oneV, intOp, goI, splice, sBuild, fillE, nilB, isNil, Nat.reduceEqDiff, Nat.reduceAdd, Nat.reduceLT, Nat.reduceLeDiff, Int.reduceNeg, Int.reduceToNat, reduceCtorEq, decide_true, decide_false, f1, f3, f4, f5, fm, encG]
            refine CallG.pure (pc_level09 g hg j) (by kernel_rfl) ?_
            repeat' (first | (refine GoB.dec (fun _ => ?_) (fun _ => ?_)) | (refine GoB.eq (fun _ => ?_) (fun _ => ?_)) | (refine GoB.ne (fun _ => ?_) (fun _ => ?_)) | (refine GoB.split (fun _ => ?_) (fun _ => ?_)) | (simp (disch := omega) only [↓wr, ↓reduceIte, wq, eq_self, ne_eq, implies_true, oneV, intOp, goI, splice, sBuild, fillE, nilB, isNil, Nat.reduceEqDiff, Nat.reduceAdd, Nat.reduceLT, Nat.reduceLeDiff, Int.reduceNeg, Int.reduceToNat, reduceCtorEq, decide_true, decide_false, f1, f3, f4, f5, fm, encG]))
            · rename_i hb
              refine ⟨k' - 1, by omega, j + 1, by omega, by omega, fun q hq => ?_, by first | rfl | exact ⟨rfl, rfl⟩ | exact ⟨rfl, rfl, rfl⟩⟩
              by_cases e : q + 1 = j
              · have : (q : Int) + 1 = j := by omega
                rw [this]; exact hb
              · exact hj3 q (by omega)
            · rename_i hb
              refine hbad ?_
              rw [hpre, lvlsB, List.all_eq_false]
              refine ⟨j - 1, by simp; omega, ?_⟩
              have : ((j - 1 : Nat) : Int) + 1 = j := by omega
              rw [this, hb]; simp
          · simp (disch := omega) only [↓wr, ↓reduceIte, wq, eq_self, ne_eq, implies_true, oneV, intOp, goI, splice, sBuild, fillE, nilB, isNil, Nat.reduceEqDiff, Nat.reduceAdd, Nat.reduceLT, Nat.reduceLeDiff, Int.reduceNeg, Int.reduceToNat, reduceCtorEq, decide_true, decide_false, f1, f3, f4, f5, fm]
            refine ⟨k - 1, by omega, i + 1, by omega, ?_, by first | rfl | exact ⟨rfl, rfl⟩ | exact ⟨rfl, rfl, rfl⟩⟩
            have hlv : lvlsB g t = true := by
              rw [lvlsB, List.all_eq_true]
              intro q hq
              exact hj3 q (by simp at hq; omega)
            rw [hpre, hlv, Bool.true_and] at hi
            push_cast; exact hi
      · rw [List.drop_eq_nil_of_le (by omega)] at hi
        simp only [termsL] at hi
        simp (disch := omega) only [↓wr, ↓reduceIte, wq, eq_self, ne_eq, implies_true, oneV, intOp, goI, splice, sBuild, fillE, nilB, isNil, Nat.reduceEqDiff, Nat.reduceAdd, Nat.reduceLT, Nat.reduceLeDiff, Int.reduceNeg, Int.reduceToNat, reduceCtorEq, decide_true, decide_false, h1, h3]
        simp [terms09, hle, ← hi]

theorem pc_terms09 (g : Gram) (hg : g.Ok) : PCall Tryz.prog 54 [.agg (encG g)] (gb (terms09 g)) := PCall.val (gg_tree g) (mc_terms09 g hg)

def nonB (g : Gram) (i : Int) (s : ByteArray) : Bool := nameB (bts s) && (nonI g s == i) && decide (termI g s < 0)
def nonsL (g : Gram) : List ByteArray → Int → Bool
  | [], _ => true
  | s :: r, i => nonB g i s && nonsL g r (i + 1)
def nons09 (g : Gram) : Bool := decide (1 ≤ g.nons.length) && decide (g.nons.length ≤ 16) && nonsL g g.nons 0

set_option maxHeartbeats 1000000 in
theorem mc_nons09 (g : Gram) (hg : g.Ok) (H : View) : MCall Tryz.prog 55 [.agg (encG g)] H fun r _ => r = gb (nons09 g) := by
  refine MCall.of mixed S_gerundref09_nons_ok ?_
  repeat' (first | (refine GoB.dec (fun _ => ?_) (fun _ => ?_)) | (refine GoB.eq (fun _ => ?_) (fun _ => ?_)) | (refine GoB.ne (fun _ => ?_) (fun _ => ?_)) | (refine GoB.split (fun _ => ?_) (fun _ => ?_)) | (simp (disch := omega) only [↓wr, ↓reduceIte, wq, eq_self, ne_eq, implies_true, oneV, intOp, goI, splice, sBuild, fillE, nilB, isNil, Nat.reduceEqDiff, Nat.reduceAdd, Nat.reduceLT, Nat.reduceLeDiff, Int.reduceNeg, Int.reduceToNat, reduceCtorEq, decide_true, decide_false, S_gerundref09_nons, encG, encS]))
  · simp [nons09, show ¬ 1 ≤ g.nons.length by omega]
  · simp [nons09, show ¬ g.nons.length ≤ 16 by omega]
  · have hle : g.nons.length ≤ 16 := by omega
    refine LoopG.intro (fun k T _ => ∃ i : Nat, i + k = g.nons.length ∧ nonsL g (g.nons.drop i) i = nonsL g g.nons 0 ∧ T 1 = .fptr (encG g) 0 ∧ T 3 = gi i) g.nons.length ?_ ?_
    · exact ⟨0, by omega, rfl, rfl, rfl⟩
    · rintro k T H' ⟨i, hk, hi, h1, h3⟩
      simp (disch := omega) only [↓wr, ↓reduceIte, wq, eq_self, ne_eq, implies_true, oneV, intOp, goI, splice, sBuild, fillE, nilB, isNil, Nat.reduceEqDiff, Nat.reduceAdd, Nat.reduceLT, Nat.reduceLeDiff, Int.reduceNeg, Int.reduceToNat, reduceCtorEq, decide_true, decide_false, B_gerundref09_nons_0, h1, h3, encG, encS]
      refine GoB.dec (fun hc => ?_) (fun hc => ?_)
      · have hg2 : g.nons[i]? = some (g.nons[i]'(by omega)) := List.getElem?_eq_getElem (by omega)
        rw [drop_at (show i < g.nons.length by omega)] at hi
        generalize g.nons[i]'(by omega) = t at hg2 hi
        simp only [nonsL] at hi
        have hbad : nonB g i t = false → gb false = gb (nons09 g) := fun e => by rw [e, Bool.false_and] at hi; simp [nons09, ← hi]
        simp (disch := omega) only [↓wr, ↓reduceIte, wq, eq_self, ne_eq, implies_true, oneV, intOp, goI, splice, sBuild, fillE, nilB, isNil, Nat.reduceEqDiff, Nat.reduceAdd, Nat.reduceLT, Nat.reduceLeDiff, Int.reduceNeg, Int.reduceToNat, reduceCtorEq, decide_true, decide_false, h1, h3, encG, encS, List.getElem?_map, hg2, Option.map_some]
        refine CallG.pure (pc_Name07 t) (by kernel_rfl) ?_
        repeat' (first | (refine GoB.dec (fun _ => ?_) (fun _ => ?_)) | (refine GoB.eq (fun _ => ?_) (fun _ => ?_)) | (refine GoB.ne (fun _ => ?_) (fun _ => ?_)) | (refine GoB.split (fun _ => ?_) (fun _ => ?_)) | (simp (disch := omega) only [↓wr, ↓reduceIte, wq, eq_self, ne_eq, implies_true, oneV, intOp, goI, splice, sBuild, fillE, nilB, isNil, Nat.reduceEqDiff, Nat.reduceAdd, Nat.reduceLT, Nat.reduceLeDiff, Int.reduceNeg, Int.reduceToNat, reduceCtorEq, decide_true, decide_false, h1, h3, encG, encS, List.getElem?_map, hg2, Option.map_some]))
        all_goals try (refine hbad ?_; simp [nonB, *]; done)
        rename_i hnm
        refine CallG.pure (pc_non09 g hg t) (by kernel_rfl) ?_
        repeat' (first | (refine GoB.dec (fun _ => ?_) (fun _ => ?_)) | (refine GoB.eq (fun _ => ?_) (fun _ => ?_)) | (refine GoB.ne (fun _ => ?_) (fun _ => ?_)) | (refine GoB.split (fun _ => ?_) (fun _ => ?_)) | (simp (disch := omega) only [↓wr, ↓reduceIte, wq, eq_self, ne_eq, implies_true, oneV, intOp, goI, splice, sBuild, fillE, nilB, isNil, Nat.reduceEqDiff, Nat.reduceAdd, Nat.reduceLT, Nat.reduceLeDiff, Int.reduceNeg, Int.reduceToNat, reduceCtorEq, decide_true, decide_false, h1, h3, encG, encS, List.getElem?_map, hg2, Option.map_some]))
        all_goals try (refine hbad ?_; simp [nonB, *]; done)
        rename_i hno
        refine CallG.pure (pc_term09 g hg t) (by kernel_rfl) ?_
        repeat' (first | (refine GoB.dec (fun _ => ?_) (fun _ => ?_)) | (refine GoB.eq (fun _ => ?_) (fun _ => ?_)) | (refine GoB.ne (fun _ => ?_) (fun _ => ?_)) | (refine GoB.split (fun _ => ?_) (fun _ => ?_)) | (simp (disch := omega) only [↓wr, ↓reduceIte, wq, eq_self, ne_eq, implies_true, oneV, intOp, goI, splice, sBuild, fillE, nilB, isNil, Nat.reduceEqDiff, Nat.reduceAdd, Nat.reduceLT, Nat.reduceLeDiff, Int.reduceNeg, Int.reduceToNat, reduceCtorEq, decide_true, decide_false, h1, h3, encG, encS]))
        all_goals try (refine hbad ?_; simp [nonB, *]; done)
        rename_i hte
        refine ⟨k - 1, by omega, i + 1, by omega, ?_, by first | rfl | exact ⟨rfl, rfl⟩ | exact ⟨rfl, rfl, rfl⟩⟩
        have : nonB g i t = true := by simp [nonB, hnm, hno, show termI g t < 0 by omega]
        rw [this, Bool.true_and] at hi
        push_cast; exact hi
      · rw [List.drop_eq_nil_of_le (by omega)] at hi
        simp only [nonsL] at hi
        simp (disch := omega) only [↓wr, ↓reduceIte, wq, eq_self, ne_eq, implies_true, oneV, intOp, goI, splice, sBuild, fillE, nilB, isNil, Nat.reduceEqDiff, Nat.reduceAdd, Nat.reduceLT, Nat.reduceLeDiff, Int.reduceNeg, Int.reduceToNat, reduceCtorEq, decide_true, decide_false, h1, h3]
        simp [nons09, hle, show 1 ≤ g.nons.length by omega, ← hi]

theorem pc_nons09 (g : Gram) (hg : g.Ok) : PCall Tryz.prog 55 [.agg (encG g)] (gb (nons09 g)) := PCall.val (gg_tree g) (mc_nons09 g hg)

def symB (g : Gram) (prec s : Int) : Bool := hasG g s && !(decide (0 ≤ s) && prec == -1)
def ruleB (g : Gram) (r : Rule) : Bool := decide (r.right.length ≤ 6) && decide (-1 ≤ r.prec) && decide (r.prec < g.terms.length) && r.right.all (symB g r.prec)

theorem gr_trees (g : Gram) (r : Rule) : ∀ v ∈ [V.agg (encG g), V.agg (encR r)], Tree v := by
  intro v hv; simp at hv
  rcases hv with rfl | rfl
  · exact tree_agg _ (encG_tree g)
  · exact tree_agg _ (encR_tree r)

set_option maxHeartbeats 1000000 in
theorem mc_rule09 (g : Gram) (r : Rule) (hr : Short r.right ∧ ∀ x ∈ r.right, In64 x) (H : View) : MCall Tryz.prog 56 [.agg (encG g), .agg (encR r)] H fun v _ => v = gb (ruleB g r) := by
  refine MCall.of mixed S_gerundref09_rule_ok ?_
  repeat' (first | (refine GoB.dec (fun _ => ?_) (fun _ => ?_)) | (refine GoB.eq (fun _ => ?_) (fun _ => ?_)) | (refine GoB.ne (fun _ => ?_) (fun _ => ?_)) | (refine GoB.split (fun _ => ?_) (fun _ => ?_)) | (simp (disch := omega) only [↓wr, ↓reduceIte, wq, eq_self, ne_eq, implies_true, oneV, intOp, goI, splice, sBuild, fillE, nilB, isNil, Nat.reduceEqDiff, Nat.reduceAdd, Nat.reduceLT, Nat.reduceLeDiff, Int.reduceNeg, Int.reduceToNat, reduceCtorEq, decide_true, decide_false, S_gerundref09_rule, encG, encS, encR, encI]))
  · simp [ruleB, show ¬ r.right.length ≤ 6 by omega]
  · simp [ruleB, show ¬ -1 ≤ r.prec by omega]
  · simp [ruleB, show ¬ r.prec < g.terms.length by omega]
  · have hle : r.right.length ≤ 6 := by omega
    have hp1 : -1 ≤ r.prec := by omega
    have hp2 : r.prec < g.terms.length := by omega
    refine LoopG.intro (fun k T _ => ∃ i : Nat, i + k = r.right.length ∧ (r.right.drop i).all (symB g r.prec) = r.right.all (symB g r.prec) ∧ T 2 = .fptr (encG g) 0 ∧ T 3 = .fptr (encR r) 0 ∧ T 5 = gi i) r.right.length ?_ ?_
    · exact ⟨0, by omega, rfl, rfl, rfl, rfl⟩
    · rintro k T H' ⟨i, hk, hi, h2, h3, h5⟩
      simp (disch := omega) only [↓wr, ↓reduceIte, wq, eq_self, ne_eq, implies_true, oneV, intOp, goI, splice, sBuild, fillE, nilB, isNil, Nat.reduceEqDiff, Nat.reduceAdd, Nat.reduceLT, Nat.reduceLeDiff, Int.reduceNeg, Int.reduceToNat, reduceCtorEq, decide_true, decide_false, B_gerundref09_rule_0, h2, h3, h5, encR, encI]
      refine GoB.dec (fun hc => ?_) (fun hc => ?_)
      · have hg2 : r.right[i]? = some (r.right[i]'(by omega)) := List.getElem?_eq_getElem (by omega)
        rw [drop_at (show i < r.right.length by omega)] at hi
        have hmem : r.right[i]'(by omega) ∈ r.right := List.getElem_mem _
        generalize r.right[i]'(by omega) = t at hg2 hi hmem
        have hin := hr.2 t hmem
        simp only [List.all_cons] at hi
        have hbad : symB g r.prec t = false → gb false = gb (ruleB g r) := fun e => by rw [e, Bool.false_and] at hi; simp only [ruleB, ← hi, Bool.and_false]
        have hok : symB g r.prec t = true → (r.right.drop (i + 1)).all (symB g r.prec) = r.right.all (symB g r.prec) := fun e => by rw [e, Bool.true_and] at hi; exact hi
        simp (disch := omega) only [↓wr, ↓reduceIte, wq, eq_self, ne_eq, implies_true, oneV, intOp, goI, splice, sBuild, fillE, nilB, isNil, Nat.reduceEqDiff, Nat.reduceAdd, Nat.reduceLT, Nat.reduceLeDiff, Int.reduceNeg, Int.reduceToNat, reduceCtorEq, decide_true, decide_false, h2, h3, h5, encG, encS, encR, encI, List.getElem?_map, hg2, Option.map_some]
        refine CallG.pure (pc_Has g t hin) (by kernel_rfl) ?_
        repeat' (first | (refine GoB.dec (fun _ => ?_) (fun _ => ?_)) | (refine GoB.eq (fun _ => ?_) (fun _ => ?_)) | (refine GoB.ne (fun _ => ?_) (fun _ => ?_)) | (refine GoB.split (fun _ => ?_) (fun _ => ?_)) | (simp (disch := omega) only [↓wr, ↓reduceIte, wq, eq_self, ne_eq, implies_true, oneV, intOp, goI, splice, sBuild, fillE, nilB, isNil, Nat.reduceEqDiff, Nat.reduceAdd, Nat.reduceLT, Nat.reduceLeDiff, Int.reduceNeg, Int.reduceToNat, reduceCtorEq, decide_true, decide_false, h2, h3, h5, encG, encS, encR, encI, List.getElem?_map, hg2, Option.map_some]))
        all_goals first
          | (refine hbad ?_; simp [symB, *]; done)
          | (refine ⟨k - 1, by omega, i + 1, by omega, hok (by simp [symB, *]; done), by first | rfl | exact ⟨rfl, rfl⟩ | exact ⟨rfl, rfl, rfl⟩⟩)
          | skip
      · rw [List.drop_eq_nil_of_le (by omega)] at hi
        simp only [List.all_nil] at hi
        simp (disch := omega) only [↓wr, ↓reduceIte, wq, eq_self, ne_eq, implies_true, oneV, intOp, goI, splice, sBuild, fillE, nilB, isNil, Nat.reduceEqDiff, Nat.reduceAdd, Nat.reduceLT, Nat.reduceLeDiff, Int.reduceNeg, Int.reduceToNat, reduceCtorEq, decide_true, decide_false, h2, h3, h5]
        simp only [ruleB, hle, hp1, hp2, decide_true, Bool.true_and, ← hi]

theorem pc_rule09 (g : Gram) (r : Rule) (hr : Short r.right ∧ ∀ x ∈ r.right, In64 x) : PCall Tryz.prog 56 [.agg (encG g), .agg (encR r)] (gb (ruleB g r)) := PCall.val (gr_trees g r) (mc_rule09 g r hr)

def rulesL (g : Gram) : List Rule → Int → Bool
  | [], top => top == (g.nons.length : Int) - 1
  | r :: l, top => decide (0 ≤ r.left) && decide (r.left ≤ top + 1) && ruleB g r && rulesL g l (if r.left > top then r.left else top)
def right09 (g : Gram) : Bool :=
  terms09 g && nons09 g && decide (1 ≤ g.rules.length) && decide (g.rules.length ≤ 40) && decide (0 ≤ g.start) && decide (g.start < g.nons.length) && rulesL g g.rules (-1)

set_option maxHeartbeats 1000000 in
theorem mc_Right09 (g : Gram) (hg : g.Ok) (H : View) : MCall Tryz.prog 28 [.agg (encG g)] H fun r _ => r = gb (right09 g) := by
  refine MCall.of mixed S_gerundref09_Right_ok ?_
  have hn := hg.nons
  unfold Short at hn
  simp (disch := omega) only [↓wr, ↓reduceIte, wq, eq_self, ne_eq, implies_true, oneV, intOp, goI, splice, sBuild, fillE, nilB, isNil, Nat.reduceEqDiff, Nat.reduceAdd, Nat.reduceLT, Nat.reduceLeDiff, Int.reduceNeg, Int.reduceToNat, reduceCtorEq, decide_true, decide_false, S_gerundref09_Right, encG, encS]
  refine CallG.pure (pc_terms09 g hg) (by kernel_rfl) ?_
  repeat' (first | (refine GoB.dec (fun _ => ?_) (fun _ => ?_)) | (refine GoB.eq (fun _ => ?_) (fun _ => ?_)) | (refine GoB.ne (fun _ => ?_) (fun _ => ?_)) | (refine GoB.split (fun _ => ?_) (fun _ => ?_)) | (simp (disch := omega) only [↓wr, ↓reduceIte, wq, eq_self, ne_eq, implies_true, oneV, intOp, goI, splice, sBuild, fillE, nilB, isNil, Nat.reduceEqDiff, Nat.reduceAdd, Nat.reduceLT, Nat.reduceLeDiff, Int.reduceNeg, Int.reduceToNat, reduceCtorEq, decide_true, decide_false, encG, encS]))
  · rename_i h1
    refine CallG.pure (pc_nons09 g hg) (by kernel_rfl) ?_
    repeat' (first | (refine GoB.dec (fun _ => ?_) (fun _ => ?_)) | (refine GoB.eq (fun _ => ?_) (fun _ => ?_)) | (refine GoB.ne (fun _ => ?_) (fun _ => ?_)) | (refine GoB.split (fun _ => ?_) (fun _ => ?_)) | (simp (disch := omega) only [↓wr, ↓reduceIte, wq, eq_self, ne_eq, implies_true, oneV, intOp, goI, splice, sBuild, fillE, nilB, isNil, Nat.reduceEqDiff, Nat.reduceAdd, Nat.reduceLT, Nat.reduceLeDiff, Int.reduceNeg, Int.reduceToNat, reduceCtorEq, decide_true, decide_false, encG, encS]))
    all_goals try (simp [right09, *]; done)
    all_goals try (simp [right09]; omega)
    rename_i h2 h3 h4 h5 h6
    have hle : g.rules.length ≤ 40 := by omega
    have hpre : ∀ b, rulesL g g.rules (-1) = b → gb b = gb (right09 g) := fun b e => by
      simp [right09, h1, h2, show 1 ≤ g.rules.length by omega, hle, show 0 ≤ g.start by omega, show g.start < g.nons.length by omega, e]
    refine LoopG.intro (fun k T _ => ∃ (i : Nat) (w : Int), i + k = g.rules.length ∧ -1 ≤ w ∧ w < i ∧ rulesL g (g.rules.drop i) w = rulesL g g.rules (-1) ∧ T 1 = .fptr (encG g) 0 ∧ T 3 = gi w ∧ T 4 = gi i) g.rules.length ?_ ?_
    · exact ⟨0, -1, by omega, by omega, by omega, rfl, rfl, rfl, rfl⟩
    · rintro k T H' ⟨i, w, hk, hw1, hw2, hi, f1, f3, f4⟩
      simp (disch := omega) only [↓wr, ↓reduceIte, wq, eq_self, ne_eq, implies_true, oneV, intOp, goI, splice, sBuild, fillE, nilB, isNil, Nat.reduceEqDiff, Nat.reduceAdd, Nat.reduceLT, Nat.reduceLeDiff, Int.reduceNeg, Int.reduceToNat, reduceCtorEq, decide_true, decide_false, B_gerundref09_Right_0, f1, f3, f4, encG]
      refine GoB.dec (fun hc => ?_) (fun hc => ?_)
      · have hg2 : g.rules[i]? = some (g.rules[i]'(by omega)) := List.getElem?_eq_getElem (by omega)
        rw [drop_at (show i < g.rules.length by omega)] at hi
        have hmem : g.rules[i]'(by omega) ∈ g.rules := List.getElem_mem _
        generalize g.rules[i]'(by omega) = t at hg2 hi hmem
        obtain ⟨⟨hl1, hl2⟩, hp, hr1, hr2⟩ := hg.rule t hmem
        simp only [rulesL] at hi
        simp (disch := omega) only [↓wr, ↓reduceIte, wq, eq_self, ne_eq, implies_true, oneV, intOp, goI, splice, sBuild, fillE, nilB, isNil, Nat.reduceEqDiff, Nat.reduceAdd, Nat.reduceLT, Nat.reduceLeDiff, Int.reduceNeg, Int.reduceToNat, reduceCtorEq, decide_true, decide_false, f1, f3, f4, encG, encS, encR, encI, List.getElem?_map, hg2, Option.map_some]
        intro m hm
        try simp (disch := omega) only [↓wr, ↓reduceIte, wq, eq_self, ne_eq, implies_true, oneV, intOp, goI, splice, sBuild, fillE, nilB, isNil, Nat.reduceEqDiff, Nat.reduceAdd, Nat.reduceLT, Nat.reduceLeDiff, Int.reduceNeg, Int.reduceToNat, reduceCtorEq, decide_true, decide_false, f1, f3, f4]
        repeat' (first | (refine GoB.dec (fun _ => ?_) (fun _ => ?_)) | (refine GoB.eq (fun _ => ?_) (fun _ => ?_)) | (refine GoB.ne (fun _ => ?_) (fun _ => ?_)) | (refine GoB.split (fun _ => ?_) (fun _ => ?_)) | (simp (disch := omega) only [↓wr, ↓reduceIte, wq, eq_self, ne_eq, implies_true, oneV, intOp, goI, splice, sBuild, fillE, nilB, isNil, Nat.reduceEqDiff, Nat.reduceAdd, Nat.reduceLT, Nat.reduceLeDiff, Int.reduceNeg, Int.reduceToNat, reduceCtorEq, decide_true, decide_false, f1, f3, f4, encG, encS, encR, encI]))
        all_goals try (refine hpre _ ?_; simp only [← hi]; simp; omega)
        rename_i e1 e2
        refine CallG.pure (pc_rule09 g t ⟨hr1, hr2⟩) (by kernel_rfl) ?_
        repeat' (first | (refine GoB.dec (fun _ => ?_) (fun _ => ?_)) | (refine GoB.eq (fun _ => ?_) (fun _ => ?_)) | (refine GoB.ne (fun _ => ?_) (fun _ => ?_)) | (refine GoB.split (fun _ => ?_) (fun _ => ?_)) | (simp (disch := omega) only [↓wr, ↓reduceIte, wq, eq_self, ne_eq, implies_true, oneV, intOp, goI, splice, sBuild, fillE, nilB, isNil, Nat.reduceEqDiff, Nat.reduceAdd, Nat.reduceLT, Nat.reduceLeDiff, Int.reduceNeg, Int.reduceToNat, reduceCtorEq, decide_true, decide_false, f1, f3, f4, encG, encS, encR, encI]))
        all_goals simp only [show 0 ≤ t.left by omega, show t.left ≤ w + 1 by omega, decide_true, Bool.true_and] at hi
        · rename_i e3 e4
          rw [e3, Bool.true_and, if_pos e4] at hi
          exact ⟨k - 1, by omega, i + 1, _, by omega, by omega, by push_cast; omega, hi, by first | rfl | exact ⟨rfl, rfl⟩ | exact ⟨rfl, rfl, rfl⟩⟩
        · rename_i e3 e4
          rw [e3, Bool.true_and, if_neg e4] at hi
          exact ⟨k - 1, by omega, i + 1, _, by omega, by omega, by push_cast; omega, hi, by first | rfl | exact ⟨rfl, rfl⟩ | exact ⟨rfl, rfl, rfl⟩⟩
        · rename_i e3
          rw [e3, Bool.false_and] at hi
          exact hpre _ hi.symm
      · rw [List.drop_eq_nil_of_le (by omega)] at hi
        simp only [rulesL] at hi
        simp (disch := omega) only [↓wr, ↓reduceIte, wq, eq_self, ne_eq, implies_true, oneV, intOp, goI, splice, sBuild, fillE, nilB, isNil, Nat.reduceEqDiff, Nat.reduceAdd, Nat.reduceLT, Nat.reduceLeDiff, Int.reduceNeg, Int.reduceToNat, reduceCtorEq, decide_true, decide_false, f1, f3, f4, encG, encS]
        exact hpre _ hi.symm
  · rename_i h1; simp [right09, h1]

theorem pc_Right09 (g : Gram) (hg : g.Ok) : PCall Tryz.prog 28 [.agg (encG g)] (gb (right09 g)) := PCall.val (gg_tree g) (mc_Right09 g hg)

end Gv

/-
  An evaluator of code with its types looked up, made for the kernel: what it answers is what the calls come to.
  Conditions: none beyond those that each lemma names.
-/
namespace Gv
open Go

/-! trees as memory: 0 at the root, odd places to the left, even ones to the right -/
inductive Tr2 (α : Type) where
  | nil
  | node (v : α) (l r : Tr2 α)

/-- By the recursor itself: the kernel has less to turn to. -/
noncomputable def Tr2.get {α : Type} (z : α) (t : Tr2 α) : Nat → α :=
  Tr2.rec (motive := fun _ => Nat → α) (fun _ => z) (fun v _ _ gl gr i => Bool.rec (Bool.rec (gr (i / 2 - 1)) (gl (i / 2)) (Nat.beq (i % 2) 1)) v (Nat.beq i 0)) t

theorem Tr2.get_nil {α : Type} (z : α) (i : Nat) : Tr2.get z .nil i = z := rfl
theorem Tr2.get_node {α : Type} (z v : α) (l r : Tr2 α) (i : Nat) : Tr2.get z (.node v l r) i = match Nat.beq i 0 with
    | true => v
    | false => match Nat.beq (i % 2) 1 with
      | true => Tr2.get z l (i / 2)
      | false => Tr2.get z r (i / 2 - 1) := by
  change (Bool.rec (motive := fun _ => α) _ _ _ : α) = _
  cases Nat.beq i 0 with
  | true => rfl
  | false => cases Nat.beq (i % 2) 1 <;> rfl

def Tr2.val {α : Type} (z : α) : Tr2 α → α
  | .nil => z
  | .node v _ _ => v
def Tr2.left {α : Type} : Tr2 α → Tr2 α
  | .nil => .nil
  | .node _ l _ => l
def Tr2.right {α : Type} : Tr2 α → Tr2 α
  | .nil => .nil
  | .node _ _ r => r

noncomputable def Tr2.put {α : Type} (z : α) (x : α) (d : Nat) : Tr2 α → Nat → Tr2 α :=
  Nat.rec (motive := fun _ => Tr2 α → Nat → Tr2 α) (fun t _ => t) (fun _ pd t i =>
    Bool.rec (Bool.rec (.node (t.val z) t.left (pd t.right (i / 2 - 1))) (.node (t.val z) (pd t.left (i / 2)) t.right) (Nat.beq (i % 2) 1)) (.node x t.left t.right) (Nat.beq i 0)) d

theorem Tr2.put_succ {α : Type} (z x : α) (d : Nat) (t : Tr2 α) (i : Nat) : Tr2.put z x (d + 1) t i = match Nat.beq i 0 with
    | true => .node x t.left t.right
    | false => match Nat.beq (i % 2) 1 with
      | true => .node (t.val z) (Tr2.put z x d t.left (i / 2)) t.right
      | false => .node (t.val z) t.left (Tr2.put z x d t.right (i / 2 - 1)) := by
  change (Bool.rec (motive := fun _ => Tr2 α) _ _ _ : Tr2 α) = _
  cases Nat.beq i 0 with
  | true => rfl
  | false => cases Nat.beq (i % 2) 1 <;> rfl

theorem Tr2.get_parts {α : Type} (z : α) (t : Tr2 α) (j : Nat) : t.get z j = if j = 0 then t.val z else if j % 2 = 1 then t.left.get z (j / 2) else t.right.get z (j / 2 - 1) := by
  cases t with
  | nil => simp [Tr2.get_nil, Tr2.val, Tr2.left, Tr2.right]
  | node v l r =>
    simp only [Tr2.get_node, Tr2.val, Tr2.left, Tr2.right]
    by_cases h : j = 0
    · subst h; rfl
    · have : Nat.beq j 0 = false := by cases e : Nat.beq j 0 with | true => exact absurd (Nat.eq_of_beq_eq_true e) h | false => rfl
      rw [this, if_neg h]
      simp only
      by_cases h2 : j % 2 = 1
      · have : Nat.beq (j % 2) 1 = true := by rw [h2]; rfl
        rw [this, if_pos h2]
      · have : Nat.beq (j % 2) 1 = false := by cases e : Nat.beq (j % 2) 1 with | true => exact absurd (Nat.eq_of_beq_eq_true e) h2 | false => rfl
        rw [this, if_neg h2]

theorem Tr2.get_put {α : Type} (z x : α) : ∀ (d : Nat) (t : Tr2 α) (i j : Nat), i + 1 < 2 ^ d → (Tr2.put z x d t i).get z j = if j = i then x else t.get z j
  | 0, t, i, j, h => by simp at h
  | d + 1, t, i, j, h => by
    rw [Nat.pow_succ] at h
    simp only [Tr2.put_succ]
    by_cases hi : i = 0
    · subst hi
      have : Nat.beq 0 0 = true := rfl
      rw [this]
      simp only
      rw [Tr2.get_parts, Tr2.get_parts z t]
      simp only [Tr2.val, Tr2.left, Tr2.right]
      by_cases hj : j = 0
      · rw [if_pos hj, if_pos hj]
      · rw [if_neg hj, if_neg hj, if_neg hj]
    · have : Nat.beq i 0 = false := by cases e : Nat.beq i 0 with | true => exact absurd (Nat.eq_of_beq_eq_true e) hi | false => rfl
      rw [this]
      simp only
      by_cases h2 : i % 2 = 1
      · have : Nat.beq (i % 2) 1 = true := by rw [h2]; rfl
        rw [this]
        simp only
        rw [Tr2.get_parts, Tr2.get_parts z t]
        simp only [Tr2.val, Tr2.left, Tr2.right]
        by_cases hj : j = 0
        · subst hj; rw [if_pos rfl, if_neg (fun e => hi e.symm), if_pos rfl]
        · rw [if_neg hj, if_neg hj]
          by_cases hj2 : j % 2 = 1
          · rw [if_pos hj2, if_pos hj2, Tr2.get_put z x d _ _ _ (by omega)]
            by_cases e : j = i
            · subst e; simp
            · rw [if_neg e, if_neg (by omega)]
          · rw [if_neg hj2, if_neg hj2, if_neg (fun e => hj2 (by rw [e]; exact h2))]
      · have : Nat.beq (i % 2) 1 = false := by cases e : Nat.beq (i % 2) 1 with | true => exact absurd (Nat.eq_of_beq_eq_true e) h2 | false => rfl
        rw [this]
        simp only
        rw [Tr2.get_parts, Tr2.get_parts z t]
        simp only [Tr2.val, Tr2.left, Tr2.right]
        by_cases hj : j = 0
        · subst hj; rw [if_pos rfl, if_neg (fun e => hi e.symm), if_pos rfl]
        · rw [if_neg hj, if_neg hj]
          by_cases hj2 : j % 2 = 1
          · rw [if_pos hj2, if_pos hj2, if_neg (fun e => h2 (by rw [← e]; exact hj2))]
          · rw [if_neg hj2, if_neg hj2, Tr2.get_put z x d _ _ _ (by omega)]
            by_cases e : j = i
            · subst e; simp
            · rw [if_neg e, if_neg (by omega)]

/-- How deep the trees go. -/
abbrev deep : Nat := 13

structure ES where
  L : Tr2 V
  H : Tr2 AObj
  n : Nat
  w : List Nat

noncomputable def ES.T (s : ES) : Env := s.L.get .any
noncomputable def ES.V (s : ES) : View := s.H.get .dead
noncomputable def ES.put (s : ES) (d : Option Nat) (v : Gv.V) : ES := match d with
  | some t => ⟨s.L.put .any v deep t, s.H, s.n, s.w⟩
  | none => s

theorem ES.put_T {s : ES} {d : Option Nat} {v : Gv.V} (h : ∀ t, d = some t → t < 8000) : (s.put d v).T = s.T.put d v := by
  cases d with
  | none => rfl
  | some t =>
    funext k
    have := h t rfl
    simp only [ES.put, ES.T, Env.put]
    rw [Tr2.get_put _ _ _ _ _ _ (by simp [deep]; omega)]

/-- What an operation does to memory; none: there is no room. -/
noncomputable def eEff (v : V) (eff : Eff) (rd : List Nat) (s : ES) : Option (V × ES × Rec) := match eff with
  | .none => some (v, s, ⟨rd, [], false, s.n, s.n⟩)
  | .new o => match Nat.ble s.n 8000 with
    | true => some (v, ⟨s.L, s.H.put .dead o deep s.n, s.n + 1, s.w⟩, ⟨rd, [], false, s.n, s.n + 1⟩)
    | false => none
  | .upd id o => match Nat.ble id 8000 with
    | true => some (v, ⟨s.L, s.H.put .dead o deep id, s.n, id :: s.w⟩, ⟨rd, [id], false, s.n, s.n⟩)
    | false => none
  | .mov id o => match Nat.ble s.n 8000, Nat.ble id 8000 with
    | true, true => some (v, ⟨s.L, (s.H.put .dead .dead deep id).put .dead o deep s.n, s.n + 1, id :: s.w⟩, ⟨rd, [id], false, s.n, s.n + 1⟩)
    | _, _ => none

/-! operations, each one's part by itself: so that the kernel need not turn to the others -/
noncomputable def iMov (x : SX) (_ : Program) (T : Env) (_ : View) (_ : Nat) : Out := some (x.at T, .none, [])
noncomputable def iPick (c a b : SX) (_ : Program) (T : Env) (_ : View) (_ : Nat) : Out := match c.at T with
  | .val (.bool t) => some (if t then a.at T else b.at T, .none, [])
  | _ => none
noncomputable def iLoad (sz : Option Nat) (a : SX) (_ : Program) (T : Env) (H : View) (_ : Nat) : Out := sLoad sz (a.at T) H
noncomputable def iStore (sz : Nat) (a x : SX) (_ : Program) (T : Env) (H : View) (_ : Nat) : Out := sStore sz (a.at T) (x.at T) H
noncomputable def iAddr (off : Nat) (x : SX) (_ : Program) (T : Env) (_ : View) (_ : Nat) : Out := sAddr off (x.at T)
noncomputable def iIdx (sz : Nat) (x i : SX) (_ : Program) (T : Env) (_ : View) (_ : Nat) : Out := sIdx sz (x.at T) (i.at T)
noncomputable def iLen (x : SX) (_ : Program) (T : Env) (_ : View) (_ : Nat) : Out := (lenV (x.at T)).map fun n => (goI n, .none, [])
noncomputable def iArith (op : BinOp) (x y : SX) (_ : Program) (T : Env) (_ : View) (_ : Nat) : Out := sArith op (x.at T) (y.at T)
noncomputable def iSop (op : BinOp) (x y : SX) (_ : Program) (T : Env) (_ : View) (_ : Nat) : Out := sSop op (x.at T) (y.at T)
noncomputable def iNot (x : SX) (_ : Program) (T : Env) (_ : View) (_ : Nat) : Out := match x.at T with
  | .val (.bool t) => some (.val (.bool (!t)), .none, [])
  | _ => none
noncomputable def iExt (i : Nat) (x : SX) (_ : Program) (T : Env) (_ : View) (_ : Nat) : Out := match x.at T with
  | .tup vs => if i < vs.length then some (vs.getD i .any, .none, []) else none
  | _ => none
noncomputable def iNilc (x : SX) (_ : Program) (T : Env) (_ : View) (_ : Nat) : Out := match x.at T with
  | .ptr id i j => some (.ptr id i j, .none, [])
  | .fptr e j => some (.fptr e j, .none, [])
  | .fn f a b => some (.fn f a b, .none, [])
  | _ => none

noncomputable def eI (s : SI) : Program → Env → View → Nat → Out := match s with
  | .mov x => iMov x
  | .pick c a b => iPick c a b
  | .load sz a => iLoad sz a
  | .store sz a x => iStore sz a x
  | .addr o x => iAddr o x
  | .idx sz x i => iIdx sz x i
  | .len x => iLen x
  | .arith op x y => iArith op x y
  | .sop op x y => iSop op x y
  | .not x => iNot x
  | .ext i x => iExt i x
  | .nilc x => iNilc x
  | s => fun P T H n => sI P s T H n

theorem eI_eq (s : SI) (P : Program) (T : Env) (H : View) (n : Nat) : eI s P T H n = sI P s T H n := by
  cases s <;> rfl

abbrev Caller := FuncId → List V → ES → Option (V × ES)

noncomputable def eOp (P : Program) (s : SI) (e : ES) : Option (V × ES × Rec) := match eI s P e.T e.V e.n with
  | some (v, eff, rd) => eEff v eff rd e
  | none => none

noncomputable def eCallB (call : Caller) (f : SX) (args : List SX) (e : ES) : Option (V × ES × Rec) := match f.at e.T with
  | .fn g first cap => match call g (first ++ args.map (SX.at e.T) ++ cap) e with
    | some (v, e') => some (v, ⟨e.L, e'.H, e'.n, e'.w ++ e.w⟩, ⟨[], e'.w, true, e.n, e'.n⟩)
    | none => none
  | _ => none

noncomputable def eB (P : Program) (call : Caller) (b : SB) : ES → Option (V × ES × Rec) := match b with
  | .op s => eOp P s
  | .call f args => eCallB call f args

noncomputable def eBs (P : Program) (call : Caller) : List (Option Nat × SB) → List Rec → ES → Option (ES × List Rec)
  | [], a, e => some (e, a)
  | (d, b) :: r, a, e => match eB P call b e with
    | some (v, e', c) => eBs P call r (a ++ [c]) (e'.put d v)
    | none => none

/-- What is passed over. -/
noncomputable def noRec (e : ES) : Rec := ⟨[], [], false, e.n, e.n⟩
noncomputable def eSkip : List (Option Nat × SB) → List Rec → ES → ES × List Rec
  | [], a, e => (e, a)
  | (d, _) :: r, a, e => eSkip r (a ++ [noRec e]) (e.put d (.tup []))

noncomputable def eGuard (P : Program) (call : Caller) (ops : List (Option Nat × SB)) (want : Bool) (v : V) (a : List Rec) (e : ES) : Option (ES × List Rec) := match v with
  | .val (.bool b) => match xor b want with
    | true => some (eSkip ops a e)
    | false => eBs P call ops a e
  | .tup [] => some (eSkip ops a e)
  | _ => none

noncomputable def eG (P : Program) (call : Caller) (g : SG) (a : List Rec) (e : ES) : Option (ES × List Rec) := match g.guard with
  | none => eBs P call g.ops a e
  | some (d, want) => eGuard P call g.ops want (e.T d) a e

noncomputable def eGs (P : Program) (call : Caller) : List SG → List Rec → ES → Option (ES × List Rec)
  | [], a, e => some (e, a)
  | g :: r, a, e => match eG P call g a e with
    | some (e', a') => eGs P call r a' e'
    | none => none

/-- Code for the evaluator: a region tells which pairs of its operations are still to be looked at. -/
inductive DC where
  | skip
  | region (ps : List (Nat × Nat)) (gs : List SG)
  | seq (x y : DC)
  | cond (c : SX) (x y : DC)
  | block (id : Nat) (c : DC)
  | loop (c : DC)
  | exit (id : Nat)
  | ret
  deriving Inhabited

def checkP (recs : List Rec) (ps : List (Nat × Nat)) : Bool := ps.all fun (i, k) => match recs[i]?, recs[k]? with
  | some a, some b => noConfB a b
  | _, _ => false

abbrev ER := Option (Exit × ES)
abbrev Run := DC → ES → ER

noncomputable def eSkipC : ES → ER := fun e => some (.normal, e)
noncomputable def eRegion (P : Program) (call : Caller) (ps : List (Nat × Nat)) (gs : List SG) (e : ES) : ER := match eGs P call gs [] e with
  | some (e', recs) => match checkP recs ps with
    | true => some (.normal, e')
    | false => none
  | none => none
noncomputable def eSeq (run : Run) (x y : DC) (e : ES) : ER := match run x e with
  | some (.normal, e') => run y e'
  | r => r
noncomputable def eCond (run : Run) (c : SX) (x y : DC) (e : ES) : ER := match c.at e.T with
  | .val (.bool true) => run x e
  | .val (.bool false) => run y e
  | _ => none
noncomputable def eBlock (run : Run) (id : Nat) (c : DC) (e : ES) : ER := match run c e with
  | some (r, e') => some (outOf id r, e')
  | none => none
noncomputable def eLoop (run : Run) (c : DC) (e : ES) : ER := match run c e with
  | some (.normal, e') => run (.loop c) e'
  | r => r

noncomputable def eStep (P : Program) (call : Caller) (run : Run) (c : DC) : ES → ER := match c with
  | .skip => eSkipC
  | .region ps gs => eRegion P call ps gs
  | .seq x y => eSeq run x y
  | .cond c x y => eCond run c x y
  | .block id c => eBlock run id c
  | .loop c => eLoop run c
  | .exit id => fun e => some (.exit id, e)
  | .ret => fun e => some (.ret, e)

noncomputable def eRes (r : SR) (e : ES) : Option V := match r with
  | .tmp t => some (e.T t)
  | .cell t sz => match e.T t with
    | .ptr id i j => match e.V id with
      | .arr _ es => if i < es.length then partS sz (es.getD i []) j else none
      | _ => none
    | .fptr e j => partS sz e j
    | _ => none

noncomputable def eRess : List SR → ES → Option (List V)
  | [], _ => some []
  | r :: l, e => match eRes r e, eRess l e with
    | some v, some vs => some (v :: vs)
    | _, _ => none

noncomputable def argTree : List V → Nat → Tr2 V → Tr2 V
  | [], _, t => t
  | v :: vs, i, t => argTree vs (i + 1) (t.put .any v deep i)

/-- A function for the evaluator. -/
structure DF where
  code : DC
  res : List SR
  n : Nat

noncomputable def eEnd (l : List SR) (r : ER) : Option (V × ES) := match r with
  | some (.ret, e) => (eRess l e).map fun vs => (oneV vs, e)
  | some (.normal, e) => (eRess l e).map fun vs => (oneV vs, e)
  | _ => none

/-- Behind a call: which of the objects that were there were turned. -/
noncomputable def eOld (m : Nat) (r : Option (V × ES)) : Option (V × ES) := match r with
  | some (v, e) => some (v, ⟨e.L, e.H, e.n, e.w.filter fun id => Nat.blt id m⟩)
  | none => none

noncomputable def eFun (run : Run) (F : DF) (vs : List V) (e : ES) : Option (V × ES) := match Nat.ble vs.length F.n, Nat.ble F.n 8000 with
  | true, true => eOld e.n (eEnd F.res (run F.code ⟨argTree vs 0 .nil, e.H, e.n, []⟩))
  | _, _ => none

abbrev ExtT := FuncId → List V → Option V

noncomputable def eCall (P : Program) (tab : List (FuncId × DF)) (ext : ExtT) (run : Run) (g : FuncId) (vs : List V) (e : ES) : Option (V × ES) := match ext g vs with
  | some t => some (t, ⟨e.L, e.H, e.n, []⟩)
  | none => match tab.find? (fun p => Nat.beq p.1 g) with
    | some (_, F) => eFun run F vs e
    | none => none

/-- Code, run for so many steps at the most. -/
noncomputable def eRun (P : Program) (tab : List (FuncId × DF)) (ext : ExtT) : Nat → Run
  | 0 => fun _ _ => none
  | k + 1 => eStep P (eCall P tab ext (eRun P tab ext k)) (eRun P tab ext k)

/-- Pairs of operations that may change places and may get in each other's way. -/
def unord (all : List Oper) (ls : List Nat) : List (Nat × Nat) :=
  let b := befs all []
  (ls.zipIdx.map fun (x, i) => (ls.zipIdx.filter fun (y, k) => decide (i < k) && !(ordered b i k || x == 0 || y == 0 || (decide (x ≤ 1) && decide (y ≤ 1)))).map fun (_, k) => (i, k)).flatten

def compDR (P : Program) (n : Nat) (fz : List Nat) (ops : List Oper) (draw : Bool) : Option DC := match compOs P n ops ⟨fz, false⟩ ops with
  | none => none
  | some l => if !(group l).all okG then none else
    if draw then (if tmpsOk ops then some (.region (unord ops (l.map fun s => loudB P false s.b)) (group l)) else none) else some (.region [] (group l))

def compD (P : Program) (n : Nat) (fz : List Nat) : Code → Option DC
  | .skip => some .skip
  | .region _ ops draw => compDR P n fz ops.toList draw
  | .seq x y => match compD P n fz x, compD P n fz y with
    | some a, some b => some (.seq a b)
    | _, _ => none
  | .cond c x y => match compD P n fz x, compD P n fz y with
    | some a, some b => some (.cond (SX.of c) a b)
    | _, _ => none
  | .block id c => (compD P n fz c).map (.block id)
  | .loop c => (compD P n fz c).map .loop
  | .exit id => some (.exit id)
  | .ret => some .ret
  | _ => none

def compDF (P : Program) (f : FuncId) (fz : List Nat) : Option DF := match P.funcs[f]? with
  | some fn => match fn.body with
    | some c => match compD P fn.ntmps fz c, compRes P fn.results.toList, calleeOk P f with
      | some sc, some rs, true => some ⟨sc, rs, fn.ntmps⟩
      | _, _, _ => none
    | none => none
  | none => none

end Gv
