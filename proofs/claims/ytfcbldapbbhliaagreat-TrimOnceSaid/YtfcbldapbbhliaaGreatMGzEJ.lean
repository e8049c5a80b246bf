/-
  Part 10 of the proof: what the machine does and what the functions answer.
  Conditions: those that each lemma names.
-/
import Derived.Test.YtfcbldapbbhliaaGreatMGzEI
set_option linter.unusedSimpArgs false
set_option linter.unusedVariables false

/-
  Are two lists, two grammars the same: what the functions answer.
  Conditions: lists that are no longer than an int says, numbers that are ints.
-/
set_option linter.unusedSimpArgs false
set_option maxRecDepth 100000
namespace Gv
open Go Go.Proofs

instance : DecidableEq Term := fun a b => decidable_of_iff (a.name = b.name ∧ a.level = b.level ∧ a.assoc = b.assoc) (by cases a; cases b; simp)
instance : DecidableEq Rule := fun a b => decidable_of_iff (a.left = b.left ∧ a.prec = b.prec ∧ a.right = b.right) (by cases a; cases b; simp [and_comm])
instance : DecidableEq Gram := fun a b => decidable_of_iff (a.terms = b.terms ∧ a.nons = b.nons ∧ a.rules = b.rules ∧ a.start = b.start) (by cases a; cases b; simp)

def B_slices_Equal___api_Term_api_Term__0 : SC :=
  .seq (.region false [⟨none, [((some 14), .op (.arith .lss (.tmp 13) (.tmp 12)))]⟩]) <|
  .seq (.cond (.tmp 14) (.skip) (.exit 0)) <|
  .seq (.block 1 (.seq (.region false [⟨none, [((some 15), .op (.mov (.tmp 13))), ((some 5), .op (.mov (.tmp 15)))]⟩]) <|
  .seq (.region false [⟨none, [((some 16), .op (.mov (.tmp 0))), ((some 17), .op (.mov (.tmp 5))), ((some 18), .op (.idx 3 (.tmp 16) (.tmp 17))), ((some 19), .op (.load (some 3) (.tmp 18))), ((some 20), .op (.mov (.tmp 1))), ((some 21), .op (.mov (.tmp 5))), ((some 22), .op (.idx 3 (.tmp 20) (.tmp 21))), ((some 23), .op (.load (some 3) (.tmp 22))), ((some 24), .op (.old (.binOp .neq 63 (.tmp 19) (.tmp 23) 63) 4))]⟩]) <|
  .cond (.tmp 24) (.seq (.region false [⟨none, [((some 4), .op (.mov (.val (.val (.bool false)))))]⟩]) <|
  .ret) (.skip))) <|
  .region false [⟨none, [((some 25), .op (.arith .add (.tmp 13) (.val (.val (.int .i64 1))))), ((some 13), .op (.mov (.tmp 25)))]⟩]
def S_slices_Equal___api_Term_api_Term_ : SF := ⟨.seq (.region false [⟨none, [((some 4), .op (.mov (.val (.val (.bool false)))))]⟩]) <|
  .seq (.seq (.region false [⟨none, [((some 6), .op (.mov (.tmp 0))), ((some 7), .op (.len (.tmp 6))), ((some 8), .op (.mov (.tmp 1))), ((some 9), .op (.len (.tmp 8))), ((some 10), .op (.arith .neq (.tmp 7) (.tmp 9)))]⟩]) <|
  .cond (.tmp 10) (.seq (.region false [⟨none, [((some 4), .op (.mov (.val (.val (.bool false)))))]⟩]) <|
  .ret) (.skip)) <|
  .seq (.seq (.region false [⟨none, [((some 11), .op (.mov (.tmp 0))), ((some 12), .op (.len (.tmp 11))), ((some 13), .op (.mov (.val (.val (.int .i64 0)))))]⟩]) <|
  .block 0 (.loop B_slices_Equal___api_Term_api_Term__0)) <|
  .seq (.region false [⟨none, [((some 4), .op (.mov (.val (.val (.bool true)))))]⟩]) <|
  .ret,
  [.tmp 4], 26⟩
theorem S_slices_Equal___api_Term_api_Term__ok : compF Tryz.prog 79 [] = some S_slices_Equal___api_Term_api_Term_ := by kernel_rfl

def B_slices_Equal___string_string__0 : SC :=
  .seq (.region false [⟨none, [((some 14), .op (.arith .lss (.tmp 13) (.tmp 12)))]⟩]) <|
  .seq (.cond (.tmp 14) (.skip) (.exit 0)) <|
  .seq (.block 1 (.seq (.region false [⟨none, [((some 15), .op (.mov (.tmp 13))), ((some 5), .op (.mov (.tmp 15)))]⟩]) <|
  .seq (.region false [⟨none, [((some 16), .op (.mov (.tmp 0))), ((some 17), .op (.mov (.tmp 5))), ((some 18), .op (.idx 1 (.tmp 16) (.tmp 17))), ((some 19), .op (.load none (.tmp 18))), ((some 20), .op (.mov (.tmp 1))), ((some 21), .op (.mov (.tmp 5))), ((some 22), .op (.idx 1 (.tmp 20) (.tmp 21))), ((some 23), .op (.load none (.tmp 22))), ((some 24), .op (.sop .neq (.tmp 19) (.tmp 23)))]⟩]) <|
  .cond (.tmp 24) (.seq (.region false [⟨none, [((some 4), .op (.mov (.val (.val (.bool false)))))]⟩]) <|
  .ret) (.skip))) <|
  .region false [⟨none, [((some 25), .op (.arith .add (.tmp 13) (.val (.val (.int .i64 1))))), ((some 13), .op (.mov (.tmp 25)))]⟩]
def S_slices_Equal___string_string_ : SF := ⟨.seq (.region false [⟨none, [((some 4), .op (.mov (.val (.val (.bool false)))))]⟩]) <|
  .seq (.seq (.region false [⟨none, [((some 6), .op (.mov (.tmp 0))), ((some 7), .op (.len (.tmp 6))), ((some 8), .op (.mov (.tmp 1))), ((some 9), .op (.len (.tmp 8))), ((some 10), .op (.arith .neq (.tmp 7) (.tmp 9)))]⟩]) <|
  .cond (.tmp 10) (.seq (.region false [⟨none, [((some 4), .op (.mov (.val (.val (.bool false)))))]⟩]) <|
  .ret) (.skip)) <|
  .seq (.seq (.region false [⟨none, [((some 11), .op (.mov (.tmp 0))), ((some 12), .op (.len (.tmp 11))), ((some 13), .op (.mov (.val (.val (.int .i64 0)))))]⟩]) <|
  .block 0 (.loop B_slices_Equal___string_string__0)) <|
  .seq (.region false [⟨none, [((some 4), .op (.mov (.val (.val (.bool true)))))]⟩]) <|
  .ret,
  [.tmp 4], 26⟩
theorem S_slices_Equal___string_string__ok : compF Tryz.prog 80 [] = some S_slices_Equal___string_string_ := by kernel_rfl

def B_slices_Equal___int_int__0 : SC :=
  .seq (.region false [⟨none, [((some 14), .op (.arith .lss (.tmp 13) (.tmp 12)))]⟩]) <|
  .seq (.cond (.tmp 14) (.skip) (.exit 0)) <|
  .seq (.block 1 (.seq (.region false [⟨none, [((some 15), .op (.mov (.tmp 13))), ((some 5), .op (.mov (.tmp 15)))]⟩]) <|
  .seq (.region false [⟨none, [((some 16), .op (.mov (.tmp 0))), ((some 17), .op (.mov (.tmp 5))), ((some 18), .op (.idx 1 (.tmp 16) (.tmp 17))), ((some 19), .op (.load none (.tmp 18))), ((some 20), .op (.mov (.tmp 1))), ((some 21), .op (.mov (.tmp 5))), ((some 22), .op (.idx 1 (.tmp 20) (.tmp 21))), ((some 23), .op (.load none (.tmp 22))), ((some 24), .op (.arith .neq (.tmp 19) (.tmp 23)))]⟩]) <|
  .cond (.tmp 24) (.seq (.region false [⟨none, [((some 4), .op (.mov (.val (.val (.bool false)))))]⟩]) <|
  .ret) (.skip))) <|
  .region false [⟨none, [((some 25), .op (.arith .add (.tmp 13) (.val (.val (.int .i64 1))))), ((some 13), .op (.mov (.tmp 25)))]⟩]
def S_slices_Equal___int_int_ : SF := ⟨.seq (.region false [⟨none, [((some 4), .op (.mov (.val (.val (.bool false)))))]⟩]) <|
  .seq (.seq (.region false [⟨none, [((some 6), .op (.mov (.tmp 0))), ((some 7), .op (.len (.tmp 6))), ((some 8), .op (.mov (.tmp 1))), ((some 9), .op (.len (.tmp 8))), ((some 10), .op (.arith .neq (.tmp 7) (.tmp 9)))]⟩]) <|
  .cond (.tmp 10) (.seq (.region false [⟨none, [((some 4), .op (.mov (.val (.val (.bool false)))))]⟩]) <|
  .ret) (.skip)) <|
  .seq (.seq (.region false [⟨none, [((some 11), .op (.mov (.tmp 0))), ((some 12), .op (.len (.tmp 11))), ((some 13), .op (.mov (.val (.val (.int .i64 0)))))]⟩]) <|
  .block 0 (.loop B_slices_Equal___int_int__0)) <|
  .seq (.region false [⟨none, [((some 4), .op (.mov (.val (.val (.bool true)))))]⟩]) <|
  .ret,
  [.tmp 4], 26⟩
theorem S_slices_Equal___int_int__ok : compF Tryz.prog 110 [] = some S_slices_Equal___int_int_ := by kernel_rfl

def S_cfg_rules : SF := ⟨.seq (.region false [⟨none, [((some 2), .op (.frz (.tmp 0))), ((some 3), .op (.frz (.tmp 1))), ((some 4), .op (.mov (.val (.val (.bool false)))))]⟩]) <|
  .seq (.region false [⟨none, [((some 5), .op (.addr 0 (.tmp 2))), ((some 6), .op (.load none (.tmp 5))), ((some 7), .op (.addr 0 (.tmp 3))), ((some 8), .op (.load none (.tmp 7))), ((some 9), .op (.arith .eql (.tmp 6) (.tmp 8))), ((some 10), .op (.mov (.tmp 9)))]⟩, ⟨(some (10, true)), [((some 11), .op (.addr 2 (.tmp 2))), ((some 12), .op (.load none (.tmp 11))), ((some 13), .op (.addr 2 (.tmp 3))), ((some 14), .op (.load none (.tmp 13))), ((some 15), .op (.arith .eql (.tmp 12) (.tmp 14)))]⟩, ⟨none, [((some 16), .op (.pick (.tmp 10) (.tmp 15) (.val (.val (.bool false))))), ((some 17), .op (.mov (.tmp 16)))]⟩, ⟨(some (17, true)), [((some 18), .op (.addr 1 (.tmp 2))), ((some 19), .op (.load none (.tmp 18))), ((some 20), .op (.addr 1 (.tmp 3))), ((some 21), .op (.load none (.tmp 20))), ((some 22), .call (.val (.fn 110 [] [])) [(.tmp 19), (.tmp 21)])]⟩, ⟨none, [((some 23), .op (.pick (.tmp 17) (.tmp 22) (.val (.val (.bool false))))), ((some 4), .op (.mov (.tmp 23)))]⟩]) <|
  .ret,
  [.tmp 4], 24⟩
theorem S_cfg_rules_ok : compF Tryz.prog 82 [2, 3] = some S_cfg_rules := by kernel_rfl

def B_slices_EqualFunc___api_Rule___api_Rule_api_Rule_api_Rule__0 : SC :=
  .seq (.region false [⟨none, [((some 18), .op (.arith .lss (.tmp 17) (.tmp 16)))]⟩]) <|
  .seq (.cond (.tmp 18) (.skip) (.exit 0)) <|
  .seq (.block 1 (.seq (.region false [⟨none, [((some 19), .op (.mov (.tmp 17))), ((some 20), .op (.idx 3 (.tmp 15) (.tmp 17))), ((some 21), .op (.load (some 3) (.tmp 20))), ((some 8), .op (.alloc [(.val (.int .i64 0)), (.emp 1), (.val (.int .i64 0))])), ((some 7), .op (.mov (.tmp 19))), (none, .op (.store 3 (.tmp 8) (.tmp 21)))]⟩]) <|
  .seq (.region false [⟨none, [((some 22), .op (.mov (.tmp 1))), ((some 23), .op (.mov (.tmp 7))), ((some 24), .op (.idx 3 (.tmp 22) (.tmp 23))), ((some 25), .op (.load (some 3) (.tmp 24))), ((some 9), .op (.alloc [(.val (.int .i64 0)), (.emp 1), (.val (.int .i64 0))])), (none, .op (.store 3 (.tmp 9) (.tmp 25)))]⟩]) <|
  .seq (.region false [⟨none, [((some 26), .op (.mov (.tmp 2))), ((some 27), .op (.load (some 3) (.tmp 8))), ((some 28), .op (.load (some 3) (.tmp 9))), ((some 29), .call (.tmp 26) [(.tmp 27), (.tmp 28)]), ((some 30), .op (.not (.tmp 29)))]⟩]) <|
  .cond (.tmp 30) (.seq (.region false [⟨none, [((some 6), .op (.mov (.val (.val (.bool false)))))]⟩]) <|
  .ret) (.skip))) <|
  .region false [⟨none, [((some 31), .op (.arith .add (.tmp 17) (.val (.val (.int .i64 1))))), ((some 17), .op (.mov (.tmp 31)))]⟩]
def S_slices_EqualFunc___api_Rule___api_Rule_api_Rule_api_Rule_ : SF := ⟨.seq (.region false [⟨none, [((some 6), .op (.mov (.val (.val (.bool false)))))]⟩]) <|
  .seq (.seq (.region false [⟨none, [((some 10), .op (.mov (.tmp 0))), ((some 11), .op (.len (.tmp 10))), ((some 12), .op (.mov (.tmp 1))), ((some 13), .op (.len (.tmp 12))), ((some 14), .op (.arith .neq (.tmp 11) (.tmp 13)))]⟩]) <|
  .cond (.tmp 14) (.seq (.region false [⟨none, [((some 6), .op (.mov (.val (.val (.bool false)))))]⟩]) <|
  .ret) (.skip)) <|
  .seq (.seq (.region false [⟨none, [((some 15), .op (.mov (.tmp 0))), ((some 16), .op (.len (.tmp 15))), ((some 17), .op (.mov (.val (.val (.int .i64 0)))))]⟩]) <|
  .block 0 (.loop B_slices_EqualFunc___api_Rule___api_Rule_api_Rule_api_Rule__0)) <|
  .seq (.region false [⟨none, [((some 6), .op (.mov (.val (.val (.bool true)))))]⟩]) <|
  .ret,
  [.tmp 6], 32⟩
theorem S_slices_EqualFunc___api_Rule___api_Rule_api_Rule_api_Rule__ok : compF Tryz.prog 81 [] = some S_slices_EqualFunc___api_Rule___api_Rule_api_Rule_api_Rule_ := by kernel_rfl

def S_cfg_Same : SF := ⟨.seq (.region false [⟨none, [((some 2), .op (.frz (.tmp 0))), ((some 3), .op (.frz (.tmp 1))), ((some 4), .op (.mov (.val (.val (.bool false)))))]⟩]) <|
  .seq (.region false [⟨none, [((some 5), .op (.addr 0 (.tmp 2))), ((some 6), .op (.load none (.tmp 5))), ((some 7), .op (.addr 0 (.tmp 3))), ((some 8), .op (.load none (.tmp 7))), ((some 9), .call (.val (.fn 79 [] [])) [(.tmp 6), (.tmp 8)]), ((some 10), .op (.mov (.tmp 9)))]⟩, ⟨(some (10, true)), [((some 11), .op (.addr 1 (.tmp 2))), ((some 12), .op (.load none (.tmp 11))), ((some 13), .op (.addr 1 (.tmp 3))), ((some 14), .op (.load none (.tmp 13))), ((some 15), .call (.val (.fn 80 [] [])) [(.tmp 12), (.tmp 14)])]⟩, ⟨none, [((some 16), .op (.pick (.tmp 10) (.tmp 15) (.val (.val (.bool false))))), ((some 17), .op (.mov (.tmp 16)))]⟩, ⟨(some (17, true)), [((some 18), .op (.addr 2 (.tmp 2))), ((some 19), .op (.load none (.tmp 18))), ((some 20), .op (.addr 2 (.tmp 3))), ((some 21), .op (.load none (.tmp 20))), ((some 22), .call (.val (.fn 81 [] [])) [(.tmp 19), (.tmp 21), (.val (.fn 82 [] []))])]⟩, ⟨none, [((some 23), .op (.pick (.tmp 17) (.tmp 22) (.val (.val (.bool false))))), ((some 24), .op (.mov (.tmp 23)))]⟩, ⟨(some (24, true)), [((some 25), .op (.addr 3 (.tmp 2))), ((some 26), .op (.load none (.tmp 25))), ((some 27), .op (.addr 3 (.tmp 3))), ((some 28), .op (.load none (.tmp 27))), ((some 29), .op (.arith .eql (.tmp 26) (.tmp 28)))]⟩, ⟨none, [((some 30), .op (.pick (.tmp 24) (.tmp 29) (.val (.val (.bool false))))), ((some 4), .op (.mov (.tmp 30)))]⟩]) <|
  .ret,
  [.tmp 4], 31⟩
theorem S_cfg_Same_ok : compF Tryz.prog 50 [2, 3] = some S_cfg_Same := by kernel_rfl


theorem two_lists {α : Type} {f g : α → List V} {a b : List α} (hf : ∀ x, ∀ v ∈ f x, Tree v) (hg : ∀ x, ∀ v ∈ g x, Tree v) : ∀ v ∈ [V.fro (a.map f), V.fro (b.map g)], Tree v := by
  intro v hv; simp at hv
  rcases hv with rfl | rfl
  · exact tree_fro _ _ fun x _ => hf x
  · exact tree_fro _ _ fun x _ => hg x

theorem bytes_beq (a b : ByteArray) : (a == b) = decide (a = b) := by
  cases a with | mk a => cases b with | mk b =>
  rw [Bool.eq_iff_iff]
  show (ByteArray.beq ⟨a⟩ ⟨b⟩ = true) ↔ _
  simp only [ByteArray.beq]
  simp
theorem strEq_dec (a b : ByteArray) : strEq a b = decide (a = b) := by
  cases a with | mk a => cases b with | mk b =>
  rw [Bool.eq_iff_iff]
  simp [strEq]

theorem eq_step {α : Type} {a b : List α} {i : Nat} {x y : α} (hx : a[i]? = some x) (hy : b[i]? = some y) (h : a.take i = b.take i) (e : x = y) : a.take (i + 1) = b.take (i + 1) := by
  rw [List.take_add_one, List.take_add_one, h, hx, hy, e]
theorem eq_end {α : Type} {a b : List α} {i : Nat} (ha : a.length ≤ i) (hb : b.length ≤ i) (h : a.take i = b.take i) : a = b := by
  rwa [List.take_of_length_le ha, List.take_of_length_le hb] at h
theorem ne_at {α : Type} {a b : List α} {i : Nat} {x y : α} (hx : a[i]? = some x) (hy : b[i]? = some y) (e : x ≠ y) : a ≠ b := by
  rintro rfl; rw [hx] at hy; exact e (by simpa using hy)
theorem ne_len {α : Type} {a b : List α} (h : ¬ a.length = b.length) : a ≠ b := fun e => h (by rw [e])

theorem fields_term (x y : Term) : FieldsEq Tryz.prog 9998 #[.string x.name, .int .i64 x.level, .int .i64 x.assoc] #[.string y.name, .int .i64 y.level, .int .i64 y.assoc]
    [{ name := "Name", type := 9, offset := 0, embedded := false, tag := "", pkgPath := "", byteOffset := 0 }, { name := "Level", type := 3, offset := 1, embedded := false, tag := "", pkgPath := "", byteOffset := 16 },
        { name := "Assoc", type := 3, offset := 2, embedded := false, tag := "", pkgPath := "", byteOffset := 24 }] (x.name == y.name && (x.level == y.level && (x.assoc == y.assoc && true))) :=
  .str _ _ _ _ _ (by decide) Tryz.underlying9 rfl rfl (.int _ _ _ _ _ _ (by decide) Tryz.underlying3 rfl rfl (.int _ _ _ _ _ _ (by decide) Tryz.underlying3 rfl rfl .nil))

theorem term_eq (x y : Term) : (x.name == y.name && (x.level == y.level && (x.assoc == y.assoc && true))) = decide (x = y) := by
  rw [bytes_beq, Bool.eq_iff_iff]
  cases x; cases y
  simp

theorem int_beq (a b : Int) : (a == b) = decide (a = b) := by rw [Bool.eq_iff_iff]; simp

theorem mc_EqualT (a b : List Term) (ha : Short a) (H : View) : MCall Tryz.prog 79 [.fro (a.map encT), .fro (b.map encT)] H fun r _ => r = gb (decide (a = b)) := by
  refine MCall.of mixed S_slices_Equal___api_Term_api_Term__ok ?_
  unfold Short at ha
  simp (disch := omega) only [↓wr, ↓reduceIte, wq, eq_self, ne_eq, implies_true, oneV, intOp, goI, splice, sBuild, fillE, nilB, isNil, Nat.reduceEqDiff, Nat.reduceAdd, Nat.reduceLT, Nat.reduceLeDiff, Int.reduceNeg, Int.reduceToNat, reduceCtorEq, decide_true, decide_false, S_slices_Equal___api_Term_api_Term_]
  refine GoB.ne (fun h => ?_) (fun h => ?_)
  · simp (disch := omega) only [↓wr, ↓reduceIte, wq, eq_self, ne_eq, implies_true, oneV, intOp, goI, splice, sBuild, fillE, nilB, isNil, Nat.reduceEqDiff, Nat.reduceAdd, Nat.reduceLT, Nat.reduceLeDiff, Int.reduceNeg, Int.reduceToNat, reduceCtorEq, decide_true, decide_false]
    rw [decide_eq_false (ne_len (by omega))]
  · simp (disch := omega) only [↓wr, ↓reduceIte, wq, eq_self, ne_eq, implies_true, oneV, intOp, goI, splice, sBuild, fillE, nilB, isNil, Nat.reduceEqDiff, Nat.reduceAdd, Nat.reduceLT, Nat.reduceLeDiff, Int.reduceNeg, Int.reduceToNat, reduceCtorEq, decide_true, decide_false]
    refine LoopG.up a.length (fun i T _ => a.take i = b.take i ∧ T 0 = .fro (a.map encT) ∧ T 1 = .fro (b.map encT) ∧ T 12 = gi a.length ∧ T 13 = gi i) ⟨by simp, rfl, rfl, rfl, rfl⟩ ?_
    rintro i k T H hk ⟨hi, h0, h1, h7, h8⟩
    simp (disch := omega) only [↓wr, ↓reduceIte, wq, eq_self, ne_eq, implies_true, oneV, intOp, goI, splice, sBuild, fillE, nilB, isNil, Nat.reduceEqDiff, Nat.reduceAdd, Nat.reduceLT, Nat.reduceLeDiff, Int.reduceNeg, Int.reduceToNat, reduceCtorEq, decide_true, decide_false, B_slices_Equal___api_Term_api_Term__0, h0, h1, h7, h8]
    refine GoB.dec (fun hc => ?_) (fun hc => ?_)
    · have h2 : a[i]? = some (a[i]'(by omega)) := List.getElem?_eq_getElem (by omega)
      have h3 : b[i]? = some (b[i]'(by omega)) := List.getElem?_eq_getElem (by omega)
      generalize a[i]'(by omega) = x at h2
      generalize b[i]'(by omega) = y at h3
      simp (disch := omega) only [↓wr, ↓reduceIte, wq, eq_self, ne_eq, implies_true, oneV, intOp, goI, splice, sBuild, fillE, nilB, isNil, Nat.reduceEqDiff, Nat.reduceAdd, Nat.reduceLT, Nat.reduceLeDiff, Int.reduceNeg, Int.reduceToNat, reduceCtorEq, decide_true, decide_false, h0, h1, h7, h8, List.getElem?_map, h2, h3, encT]
      refine oldStructEq (xs := #[.string x.name, .int .i64 x.level, .int .i64 x.assoc]) (ys := #[.string y.name, .int .i64 y.level, .int .i64 y.assoc]) Tryz.underlying63 (by kernel_rfl) (by kernel_rfl) ?_ ?_ (fields_term x y) (.inr ⟨rfl, rfl⟩) ?_
      · rfl
      · rfl
      rw [term_eq]
      simp (disch := omega) only [↓wr, ↓reduceIte, wq, eq_self, ne_eq, implies_true, oneV, intOp, goI, splice, sBuild, fillE, nilB, isNil, Nat.reduceEqDiff, Nat.reduceAdd, Nat.reduceLT, Nat.reduceLeDiff, Int.reduceNeg, Int.reduceToNat, reduceCtorEq, decide_true, decide_false, h0, h1, h7, h8]
      refine GoB.split (fun e => ?_) (fun e => ?_)
      · simp (disch := omega) only [↓wr, ↓reduceIte, wq, eq_self, ne_eq, implies_true, oneV, intOp, goI, splice, sBuild, fillE, nilB, isNil, Nat.reduceEqDiff, Nat.reduceAdd, Nat.reduceLT, Nat.reduceLeDiff, Int.reduceNeg, Int.reduceToNat, reduceCtorEq, decide_true, decide_false, h0, h1, h7, h8]
        exact up_next hk (by omega) ⟨eq_step h2 h3 hi (by simpa using e), h0, h1, h7, rfl⟩
      · simp (disch := omega) only [↓wr, ↓reduceIte, wq, eq_self, ne_eq, implies_true, oneV, intOp, goI, splice, sBuild, fillE, nilB, isNil, Nat.reduceEqDiff, Nat.reduceAdd, Nat.reduceLT, Nat.reduceLeDiff, Int.reduceNeg, Int.reduceToNat, reduceCtorEq, decide_true, decide_false, h0, h1, h7, h8]
        rw [decide_eq_false (ne_at h2 h3 (by simpa using e))]
    · simp (disch := omega) only [↓wr, ↓reduceIte, wq, eq_self, ne_eq, implies_true, oneV, intOp, goI, splice, sBuild, fillE, nilB, isNil, Nat.reduceEqDiff, Nat.reduceAdd, Nat.reduceLT, Nat.reduceLeDiff, Int.reduceNeg, Int.reduceToNat, reduceCtorEq, decide_true, decide_false, h0, h1, h7, h8]
      rw [decide_eq_true (eq_end (by omega) (by omega) hi)]

theorem mc_EqualS (a b : List ByteArray) (ha : Short a) (H : View) : MCall Tryz.prog 80 [encS a, encS b] H fun r _ => r = gb (decide (a = b)) := by
  refine MCall.of mixed S_slices_Equal___string_string__ok ?_
  unfold Short at ha
  simp (disch := omega) only [↓wr, ↓reduceIte, wq, eq_self, ne_eq, implies_true, oneV, intOp, goI, splice, sBuild, fillE, nilB, isNil, Nat.reduceEqDiff, Nat.reduceAdd, Nat.reduceLT, Nat.reduceLeDiff, Int.reduceNeg, Int.reduceToNat, reduceCtorEq, decide_true, decide_false, S_slices_Equal___string_string_, encS]
  refine GoB.ne (fun h => ?_) (fun h => ?_)
  · simp (disch := omega) only [↓wr, ↓reduceIte, wq, eq_self, ne_eq, implies_true, oneV, intOp, goI, splice, sBuild, fillE, nilB, isNil, Nat.reduceEqDiff, Nat.reduceAdd, Nat.reduceLT, Nat.reduceLeDiff, Int.reduceNeg, Int.reduceToNat, reduceCtorEq, decide_true, decide_false]
    rw [decide_eq_false (ne_len (by omega))]
  · simp (disch := omega) only [↓wr, ↓reduceIte, wq, eq_self, ne_eq, implies_true, oneV, intOp, goI, splice, sBuild, fillE, nilB, isNil, Nat.reduceEqDiff, Nat.reduceAdd, Nat.reduceLT, Nat.reduceLeDiff, Int.reduceNeg, Int.reduceToNat, reduceCtorEq, decide_true, decide_false]
    refine LoopG.up a.length (fun i T _ => a.take i = b.take i ∧ T 0 = encS a ∧ T 1 = encS b ∧ T 12 = gi a.length ∧ T 13 = gi i) ⟨by simp, rfl, rfl, rfl, rfl⟩ ?_
    rintro i k T H hk ⟨hi, h0, h1, h7, h8⟩
    simp (disch := omega) only [↓wr, ↓reduceIte, wq, eq_self, ne_eq, implies_true, oneV, intOp, goI, splice, sBuild, fillE, nilB, isNil, Nat.reduceEqDiff, Nat.reduceAdd, Nat.reduceLT, Nat.reduceLeDiff, Int.reduceNeg, Int.reduceToNat, reduceCtorEq, decide_true, decide_false, B_slices_Equal___string_string__0, h0, h1, h7, h8, encS]
    refine GoB.dec (fun hc => ?_) (fun hc => ?_)
    · have h2 : a[i]? = some (a[i]'(by omega)) := List.getElem?_eq_getElem (by omega)
      have h3 : b[i]? = some (b[i]'(by omega)) := List.getElem?_eq_getElem (by omega)
      generalize a[i]'(by omega) = x at h2
      generalize b[i]'(by omega) = y at h3
      simp (disch := omega) only [↓wr, ↓reduceIte, wq, eq_self, ne_eq, implies_true, oneV, intOp, goI, splice, sBuild, fillE, nilB, isNil, Nat.reduceEqDiff, Nat.reduceAdd, Nat.reduceLT, Nat.reduceLeDiff, Int.reduceNeg, Int.reduceToNat, reduceCtorEq, decide_true, decide_false, h0, h1, h7, h8, encS, List.getElem?_map, h2, h3, strEq_dec]
      refine GoB.split (fun e => ?_) (fun e => ?_)
      · simp (disch := omega) only [↓wr, ↓reduceIte, wq, eq_self, ne_eq, implies_true, oneV, intOp, goI, splice, sBuild, fillE, nilB, isNil, Nat.reduceEqDiff, Nat.reduceAdd, Nat.reduceLT, Nat.reduceLeDiff, Int.reduceNeg, Int.reduceToNat, reduceCtorEq, decide_true, decide_false, h0, h1, h7, h8]
        exact up_next hk (by omega) ⟨eq_step h2 h3 hi (by simpa using e), h0, h1, h7, rfl⟩
      · simp (disch := omega) only [↓wr, ↓reduceIte, wq, eq_self, ne_eq, implies_true, oneV, intOp, goI, splice, sBuild, fillE, nilB, isNil, Nat.reduceEqDiff, Nat.reduceAdd, Nat.reduceLT, Nat.reduceLeDiff, Int.reduceNeg, Int.reduceToNat, reduceCtorEq, decide_true, decide_false, h0, h1, h7, h8]
        rw [decide_eq_false (ne_at h2 h3 (by simpa using e))]
    · simp (disch := omega) only [↓wr, ↓reduceIte, wq, eq_self, ne_eq, implies_true, oneV, intOp, goI, splice, sBuild, fillE, nilB, isNil, Nat.reduceEqDiff, Nat.reduceAdd, Nat.reduceLT, Nat.reduceLeDiff, Int.reduceNeg, Int.reduceToNat, reduceCtorEq, decide_true, decide_false, h0, h1, h7, h8]
      rw [decide_eq_true (eq_end (by omega) (by omega) hi)]

theorem mc_EqualI (a b : List Int) (ha : Short a) (H : View) : MCall Tryz.prog 110 [encI a, encI b] H fun r _ => r = gb (decide (a = b)) := by
  refine MCall.of mixed S_slices_Equal___int_int__ok ?_
  unfold Short at ha
  simp (disch := omega) only [↓wr, ↓reduceIte, wq, eq_self, ne_eq, implies_true, oneV, intOp, goI, splice, sBuild, fillE, nilB, isNil, Nat.reduceEqDiff, Nat.reduceAdd, Nat.reduceLT, Nat.reduceLeDiff, Int.reduceNeg, Int.reduceToNat, reduceCtorEq, decide_true, decide_false, S_slices_Equal___int_int_, encI]
  refine GoB.ne (fun h => ?_) (fun h => ?_)
  · simp (disch := omega) only [↓wr, ↓reduceIte, wq, eq_self, ne_eq, implies_true, oneV, intOp, goI, splice, sBuild, fillE, nilB, isNil, Nat.reduceEqDiff, Nat.reduceAdd, Nat.reduceLT, Nat.reduceLeDiff, Int.reduceNeg, Int.reduceToNat, reduceCtorEq, decide_true, decide_false]
    rw [decide_eq_false (ne_len (by omega))]
  · simp (disch := omega) only [↓wr, ↓reduceIte, wq, eq_self, ne_eq, implies_true, oneV, intOp, goI, splice, sBuild, fillE, nilB, isNil, Nat.reduceEqDiff, Nat.reduceAdd, Nat.reduceLT, Nat.reduceLeDiff, Int.reduceNeg, Int.reduceToNat, reduceCtorEq, decide_true, decide_false]
    refine LoopG.up a.length (fun i T _ => a.take i = b.take i ∧ T 0 = encI a ∧ T 1 = encI b ∧ T 12 = gi a.length ∧ T 13 = gi i) ⟨by simp, rfl, rfl, rfl, rfl⟩ ?_
    rintro i k T H hk ⟨hi, h0, h1, h7, h8⟩
    simp (disch := omega) only [↓wr, ↓reduceIte, wq, eq_self, ne_eq, implies_true, oneV, intOp, goI, splice, sBuild, fillE, nilB, isNil, Nat.reduceEqDiff, Nat.reduceAdd, Nat.reduceLT, Nat.reduceLeDiff, Int.reduceNeg, Int.reduceToNat, reduceCtorEq, decide_true, decide_false, B_slices_Equal___int_int__0, h0, h1, h7, h8, encI]
    refine GoB.dec (fun hc => ?_) (fun hc => ?_)
    · have h2 : a[i]? = some (a[i]'(by omega)) := List.getElem?_eq_getElem (by omega)
      have h3 : b[i]? = some (b[i]'(by omega)) := List.getElem?_eq_getElem (by omega)
      generalize a[i]'(by omega) = x at h2
      generalize b[i]'(by omega) = y at h3
      simp (disch := omega) only [↓wr, ↓reduceIte, wq, eq_self, ne_eq, implies_true, oneV, intOp, goI, splice, sBuild, fillE, nilB, isNil, Nat.reduceEqDiff, Nat.reduceAdd, Nat.reduceLT, Nat.reduceLeDiff, Int.reduceNeg, Int.reduceToNat, reduceCtorEq, decide_true, decide_false, h0, h1, h7, h8, encI, List.getElem?_map, h2, h3]
      refine GoB.ne (fun e => ?_) (fun e => ?_)
      · simp (disch := omega) only [↓wr, ↓reduceIte, wq, eq_self, ne_eq, implies_true, oneV, intOp, goI, splice, sBuild, fillE, nilB, isNil, Nat.reduceEqDiff, Nat.reduceAdd, Nat.reduceLT, Nat.reduceLeDiff, Int.reduceNeg, Int.reduceToNat, reduceCtorEq, decide_true, decide_false, h0, h1, h7, h8]
        rw [decide_eq_false (ne_at h2 h3 e)]
      · simp (disch := omega) only [↓wr, ↓reduceIte, wq, eq_self, ne_eq, implies_true, oneV, intOp, goI, splice, sBuild, fillE, nilB, isNil, Nat.reduceEqDiff, Nat.reduceAdd, Nat.reduceLT, Nat.reduceLeDiff, Int.reduceNeg, Int.reduceToNat, reduceCtorEq, decide_true, decide_false, h0, h1, h7, h8]
        exact up_next hk (by omega) ⟨eq_step h2 h3 hi e, h0, h1, h7, rfl⟩
    · simp (disch := omega) only [↓wr, ↓reduceIte, wq, eq_self, ne_eq, implies_true, oneV, intOp, goI, splice, sBuild, fillE, nilB, isNil, Nat.reduceEqDiff, Nat.reduceAdd, Nat.reduceLT, Nat.reduceLeDiff, Int.reduceNeg, Int.reduceToNat, reduceCtorEq, decide_true, decide_false, h0, h1, h7, h8]
      rw [decide_eq_true (eq_end (by omega) (by omega) hi)]

theorem pc_EqualT (a b : List Term) (ha : Short a) : PCall Tryz.prog 79 [.fro (a.map encT), .fro (b.map encT)] (gb (decide (a = b))) := PCall.val (two_lists encT_tree encT_tree) (mc_EqualT a b ha)
theorem pc_EqualS (a b : List ByteArray) (ha : Short a) : PCall Tryz.prog 80 [encS a, encS b] (gb (decide (a = b))) := PCall.val (by
  intro v hv; simp at hv
  rcases hv with rfl | rfl <;> exact encS_tree _) (mc_EqualS a b ha)
theorem pc_EqualI (a b : List Int) (ha : Short a) : PCall Tryz.prog 110 [encI a, encI b] (gb (decide (a = b))) := PCall.val (by
  intro v hv; simp at hv
  rcases hv with rfl | rfl <;> exact encI_tree _) (mc_EqualI a b ha)

theorem rule_dec (x y : Rule) : decide (x = y) = (decide (x.left = y.left) && (decide (x.prec = y.prec) && decide (x.right = y.right))) := by
  cases x; cases y
  rw [Bool.eq_iff_iff]
  simp [and_comm]
theorem gram_dec (x y : Gram) : decide (x = y) = (decide (x.terms = y.terms) && (decide (x.nons = y.nons) && (decide (x.rules = y.rules) && decide (x.start = y.start)))) := by
  cases x; cases y
  rw [Bool.eq_iff_iff]
  simp

theorem pc_rules (x y : Rule) (hx : Short x.right) : PCall Tryz.prog 82 [.agg (encR x), .agg (encR y)] (gb (decide (x = y))) := by
  refine PCall.val (by
    intro v hv; simp at hv
    rcases hv with rfl | rfl <;> exact tree_agg _ (encR_tree _)) fun H => ?_
  rw [rule_dec]
  refine MCall.of mixed S_cfg_rules_ok ?_
  simp (disch := omega) only [↓wr, ↓reduceIte, wq, eq_self, ne_eq, implies_true, oneV, intOp, goI, splice, sBuild, fillE, nilB, isNil, Nat.reduceEqDiff, Nat.reduceAdd, Nat.reduceLT, Nat.reduceLeDiff, Int.reduceNeg, Int.reduceToNat, reduceCtorEq, decide_true, decide_false, S_cfg_rules, encR, encI]
  repeat' (first | (refine GoB.dec (fun _ => ?_) (fun _ => ?_)) | (refine GoB.eq (fun _ => ?_) (fun _ => ?_)) | (refine GoB.ne (fun _ => ?_) (fun _ => ?_)) | (refine GoB.split (fun _ => ?_) (fun _ => ?_)) | (refine CallG.pure (pc_EqualI x.right y.right hx) (by kernel_rfl) ?_) | (simp (disch := omega) only [↓wr, ↓reduceIte, wq, eq_self, ne_eq, implies_true, oneV, intOp, goI, splice, sBuild, fillE, nilB, isNil, Nat.reduceEqDiff, Nat.reduceAdd, Nat.reduceLT, Nat.reduceLeDiff, Int.reduceNeg, Int.reduceToNat, reduceCtorEq, decide_true, decide_false, encR]))
  all_goals simp [*]

theorem mc_EqualFunc (a b : List Rule) (ha : Short a) (hr : ∀ r ∈ a, Short r.right) (H : View) : MCall Tryz.prog 81 [.fro (a.map encR), .fro (b.map encR), .fn 82 [] []] H fun r _ => r = gb (decide (a = b)) := by
  refine MCall.of mixed S_slices_EqualFunc___api_Rule___api_Rule_api_Rule_api_Rule__ok ?_
  unfold Short at ha
  simp (disch := omega) only [↓wr, ↓reduceIte, wq, eq_self, ne_eq, implies_true, oneV, intOp, goI, splice, sBuild, fillE, nilB, isNil, Nat.reduceEqDiff, Nat.reduceAdd, Nat.reduceLT, Nat.reduceLeDiff, Int.reduceNeg, Int.reduceToNat, reduceCtorEq, decide_true, decide_false, S_slices_EqualFunc___api_Rule___api_Rule_api_Rule_api_Rule_]
  refine GoB.ne (fun h => ?_) (fun h => ?_)
  · simp (disch := omega) only [↓wr, ↓reduceIte, wq, eq_self, ne_eq, implies_true, oneV, intOp, goI, splice, sBuild, fillE, nilB, isNil, Nat.reduceEqDiff, Nat.reduceAdd, Nat.reduceLT, Nat.reduceLeDiff, Int.reduceNeg, Int.reduceToNat, reduceCtorEq, decide_true, decide_false]
    rw [decide_eq_false (ne_len (by omega))]
  · simp (disch := omega) only [↓wr, ↓reduceIte, wq, eq_self, ne_eq, implies_true, oneV, intOp, goI, splice, sBuild, fillE, nilB, isNil, Nat.reduceEqDiff, Nat.reduceAdd, Nat.reduceLT, Nat.reduceLeDiff, Int.reduceNeg, Int.reduceToNat, reduceCtorEq, decide_true, decide_false]
    refine LoopG.up a.length (fun i T _ => a.take i = b.take i ∧ T 15 = .fro (a.map encR) ∧ T 1 = .fro (b.map encR) ∧ T 2 = .fn 82 [] [] ∧ T 16 = gi a.length ∧ T 17 = gi i) ⟨by simp, rfl, rfl, rfl, rfl, rfl⟩ ?_
    rintro i k T H hk ⟨hi, h0, h1, h6, h7, h8⟩
    simp (disch := omega) only [↓wr, ↓reduceIte, wq, eq_self, ne_eq, implies_true, oneV, intOp, goI, splice, sBuild, fillE, nilB, isNil, Nat.reduceEqDiff, Nat.reduceAdd, Nat.reduceLT, Nat.reduceLeDiff, Int.reduceNeg, Int.reduceToNat, reduceCtorEq, decide_true, decide_false, B_slices_EqualFunc___api_Rule___api_Rule_api_Rule_api_Rule__0, h0, h1, h6, h7, h8]
    refine GoB.dec (fun hc => ?_) (fun hc => ?_)
    · have h2 : a[i]? = some (a[i]'(by omega)) := List.getElem?_eq_getElem (by omega)
      have h3 : b[i]? = some (b[i]'(by omega)) := List.getElem?_eq_getElem (by omega)
      have hm : a[i]'(by omega) ∈ a := List.getElem_mem _
      generalize a[i]'(by omega) = x at h2 hm
      generalize b[i]'(by omega) = y at h3
      have hsx := hr x hm
      simp (disch := omega) only [↓wr, ↓reduceIte, wq, eq_self, ne_eq, implies_true, oneV, intOp, goI, splice, sBuild, fillE, nilB, isNil, Nat.reduceEqDiff, Nat.reduceAdd, Nat.reduceLT, Nat.reduceLeDiff, Int.reduceNeg, Int.reduceToNat, reduceCtorEq, decide_true, decide_false, h0, h1, h6, h7, h8, List.getElem?_map, h2, h3, encR, encI]
      intro n hn
      try simp (disch := omega) only [↓wr, ↓reduceIte, wq, eq_self, ne_eq, implies_true, oneV, intOp, goI, splice, sBuild, fillE, nilB, isNil, Nat.reduceEqDiff, Nat.reduceAdd, Nat.reduceLT, Nat.reduceLeDiff, Int.reduceNeg, Int.reduceToNat, reduceCtorEq, decide_true, decide_false, h0, h1, h6, h7, h8, List.getElem?_map, h2, h3, encR, encI]
      intro m hmd
      have hmn := (dead_if hmd arr_live).1
      try simp (disch := omega) only [↓wr, ↓reduceIte, wq, eq_self, ne_eq, implies_true, oneV, intOp, goI, splice, sBuild, fillE, nilB, isNil, Nat.reduceEqDiff, Nat.reduceAdd, Nat.reduceLT, Nat.reduceLeDiff, Int.reduceNeg, Int.reduceToNat, reduceCtorEq, decide_true, decide_false, h0, h1, h6, h7, h8, List.getElem?_map, h2, h3, encR, encI, hmn, hmn.symm]
      refine CallG.pure (pc_rules x y hsx) (by kernel_rfl) ?_
      simp (disch := omega) only [↓wr, ↓reduceIte, wq, eq_self, ne_eq, implies_true, oneV, intOp, goI, splice, sBuild, fillE, nilB, isNil, Nat.reduceEqDiff, Nat.reduceAdd, Nat.reduceLT, Nat.reduceLeDiff, Int.reduceNeg, Int.reduceToNat, reduceCtorEq, decide_true, decide_false, h0, h1, h6, h7, h8]
      refine GoB.split (fun e => ?_) (fun e => ?_)
      · simp (disch := omega) only [↓wr, ↓reduceIte, wq, eq_self, ne_eq, implies_true, oneV, intOp, goI, splice, sBuild, fillE, nilB, isNil, Nat.reduceEqDiff, Nat.reduceAdd, Nat.reduceLT, Nat.reduceLeDiff, Int.reduceNeg, Int.reduceToNat, reduceCtorEq, decide_true, decide_false, h0, h1, h6, h7, h8]
        exact up_next hk (by omega) ⟨eq_step h2 h3 hi (by simpa using e), h0, h1, h6, h7, rfl⟩
      · simp (disch := omega) only [↓wr, ↓reduceIte, wq, eq_self, ne_eq, implies_true, oneV, intOp, goI, splice, sBuild, fillE, nilB, isNil, Nat.reduceEqDiff, Nat.reduceAdd, Nat.reduceLT, Nat.reduceLeDiff, Int.reduceNeg, Int.reduceToNat, reduceCtorEq, decide_true, decide_false, h0, h1, h6, h7, h8]
        rw [decide_eq_false (ne_at h2 h3 (by simpa using e))]
    · simp (disch := omega) only [↓wr, ↓reduceIte, wq, eq_self, ne_eq, implies_true, oneV, intOp, goI, splice, sBuild, fillE, nilB, isNil, Nat.reduceEqDiff, Nat.reduceAdd, Nat.reduceLT, Nat.reduceLeDiff, Int.reduceNeg, Int.reduceToNat, reduceCtorEq, decide_true, decide_false, h0, h1, h6, h7, h8]
      rw [decide_eq_true (eq_end (by omega) (by omega) hi)]

theorem pc_EqualFunc (a b : List Rule) (ha : Short a) (hr : ∀ r ∈ a, Short r.right) : PCall Tryz.prog 81 [.fro (a.map encR), .fro (b.map encR), .fn 82 [] []] (gb (decide (a = b))) := PCall.val (by
  intro v hv; simp at hv
  rcases hv with rfl | rfl | rfl
  · exact tree_fro _ _ fun x _ => encR_tree x
  · exact tree_fro _ _ fun x _ => encR_tree x
  · exact fn_tree (by simp) (by simp)) (mc_EqualFunc a b ha hr)

theorem two_grams (g k : Gram) : ∀ v ∈ [V.agg (encG g), V.agg (encG k)], Tree v := by
  intro v hv; simp at hv
  rcases hv with rfl | rfl <;> exact tree_agg _ (encG_tree _)

theorem pc_cSame (g k : Gram) (hg : g.Ok) : PCall Tryz.prog 50 [.agg (encG g), .agg (encG k)] (gb (decide (g = k))) := by
  refine PCall.val (two_grams g k) fun H => ?_
  rw [gram_dec]
  refine MCall.of mixed S_cfg_Same_ok ?_
  simp (disch := omega) only [↓wr, ↓reduceIte, wq, eq_self, ne_eq, implies_true, oneV, intOp, goI, splice, sBuild, fillE, nilB, isNil, Nat.reduceEqDiff, Nat.reduceAdd, Nat.reduceLT, Nat.reduceLeDiff, Int.reduceNeg, Int.reduceToNat, reduceCtorEq, decide_true, decide_false, S_cfg_Same, encG, encS]
  repeat' (first | (refine GoB.dec (fun _ => ?_) (fun _ => ?_)) | (refine GoB.eq (fun _ => ?_) (fun _ => ?_)) | (refine GoB.ne (fun _ => ?_) (fun _ => ?_)) | (refine GoB.split (fun _ => ?_) (fun _ => ?_)) | (refine CallG.pure (pc_EqualT g.terms k.terms hg.terms) (by kernel_rfl) ?_) | (refine CallG.pure (pc_EqualS g.nons k.nons hg.nons) (by kernel_rfl) ?_) | (refine CallG.pure (pc_EqualFunc g.rules k.rules hg.rules (fun r hr => (hg.rule r hr).2.2.1)) (by kernel_rfl) ?_) | (simp (disch := omega) only [↓wr, ↓reduceIte, wq, eq_self, ne_eq, implies_true, oneV, intOp, goI, splice, sBuild, fillE, nilB, isNil, Nat.reduceEqDiff, Nat.reduceAdd, Nat.reduceLT, Nat.reduceLeDiff, Int.reduceNeg, Int.reduceToNat, reduceCtorEq, decide_true, decide_false, encG, encS]))
  all_goals simp_all [int_beq]

def B_gerundref09_Same_0 : SC :=
  .seq (.seq (.region false [⟨none, [((some 42), .op (.mov (.tmp 5))), ((some 43), .op (.addr 0 (.tmp 2))), ((some 44), .op (.load none (.tmp 43))), ((some 45), .op (.len (.tmp 44))), ((some 46), .op (.arith .lss (.tmp 42) (.tmp 45)))]⟩]) <|
  .cond (.tmp 46) (.skip) (.exit 0)) <|
  .seq (.block 1 (.seq (.region false [⟨none, [((some 49), .op (.addr 0 (.tmp 2))), ((some 50), .op (.load none (.tmp 49))), ((some 51), .op (.mov (.tmp 5))), ((some 52), .op (.idx 3 (.tmp 50) (.tmp 51))), ((some 53), .op (.load (some 3) (.tmp 52))), ((some 54), .op (.addr 0 (.tmp 3))), ((some 55), .op (.load none (.tmp 54))), ((some 56), .op (.mov (.tmp 5))), ((some 57), .op (.idx 3 (.tmp 55) (.tmp 56))), ((some 58), .op (.load (some 3) (.tmp 57))), ((some 59), .op (.old (.binOp .neq 63 (.tmp 53) (.tmp 58) 63) 4))]⟩]) <|
  .cond (.tmp 59) (.seq (.region false [⟨none, [((some 4), .op (.mov (.val (.val (.bool false)))))]⟩]) <|
  .ret) (.skip))) <|
  .region false [⟨none, [((some 47), .op (.mov (.tmp 5))), ((some 48), .op (.arith .add (.tmp 47) (.val (.val (.int .i64 1))))), ((some 5), .op (.mov (.tmp 48)))]⟩]
def B_gerundref09_Same_1 : SC :=
  .seq (.seq (.region false [⟨none, [((some 60), .op (.mov (.tmp 6))), ((some 61), .op (.addr 1 (.tmp 2))), ((some 62), .op (.load none (.tmp 61))), ((some 63), .op (.len (.tmp 62))), ((some 64), .op (.arith .lss (.tmp 60) (.tmp 63)))]⟩]) <|
  .cond (.tmp 64) (.skip) (.exit 2)) <|
  .seq (.block 3 (.seq (.region false [⟨none, [((some 67), .op (.addr 1 (.tmp 2))), ((some 68), .op (.load none (.tmp 67))), ((some 69), .op (.mov (.tmp 6))), ((some 70), .op (.idx 1 (.tmp 68) (.tmp 69))), ((some 71), .op (.load none (.tmp 70))), ((some 72), .op (.addr 1 (.tmp 3))), ((some 73), .op (.load none (.tmp 72))), ((some 74), .op (.mov (.tmp 6))), ((some 75), .op (.idx 1 (.tmp 73) (.tmp 74))), ((some 76), .op (.load none (.tmp 75))), ((some 77), .op (.sop .neq (.tmp 71) (.tmp 76)))]⟩]) <|
  .cond (.tmp 77) (.seq (.region false [⟨none, [((some 4), .op (.mov (.val (.val (.bool false)))))]⟩]) <|
  .ret) (.skip))) <|
  .region false [⟨none, [((some 65), .op (.mov (.tmp 6))), ((some 66), .op (.arith .add (.tmp 65) (.val (.val (.int .i64 1))))), ((some 6), .op (.mov (.tmp 66)))]⟩]
def B_gerundref09_Same_2 : SC :=
  .seq (.seq (.region false [⟨none, [((some 78), .op (.mov (.tmp 7))), ((some 79), .op (.addr 2 (.tmp 2))), ((some 80), .op (.load none (.tmp 79))), ((some 81), .op (.len (.tmp 80))), ((some 82), .op (.arith .lss (.tmp 78) (.tmp 81)))]⟩]) <|
  .cond (.tmp 82) (.skip) (.exit 4)) <|
  .seq (.block 5 (.seq (.region false [⟨none, [((some 85), .op (.addr 2 (.tmp 2))), ((some 86), .op (.load none (.tmp 85))), ((some 87), .op (.mov (.tmp 7))), ((some 88), .op (.idx 3 (.tmp 86) (.tmp 87))), ((some 89), .op (.load (some 3) (.tmp 88))), ((some 90), .op (.addr 2 (.tmp 3))), ((some 91), .op (.load none (.tmp 90))), ((some 92), .op (.mov (.tmp 7))), ((some 93), .op (.idx 3 (.tmp 91) (.tmp 92))), ((some 94), .op (.load (some 3) (.tmp 93))), ((some 8), .op (.alloc [(.val (.int .i64 0)), (.emp 1), (.val (.int .i64 0))])), ((some 9), .op (.alloc [(.val (.int .i64 0)), (.emp 1), (.val (.int .i64 0))])), (none, .op (.store 3 (.tmp 8) (.tmp 89))), (none, .op (.store 3 (.tmp 9) (.tmp 94)))]⟩]) <|
  .seq (.region false [⟨none, [((some 95), .op (.addr 0 (.tmp 8))), ((some 96), .op (.load none (.tmp 95))), ((some 97), .op (.addr 0 (.tmp 9))), ((some 98), .op (.load none (.tmp 97))), ((some 99), .op (.arith .neq (.tmp 96) (.tmp 98))), ((some 100), .op (.mov (.tmp 99)))]⟩, ⟨(some (100, false)), [((some 101), .op (.addr 2 (.tmp 8))), ((some 102), .op (.load none (.tmp 101))), ((some 103), .op (.addr 2 (.tmp 9))), ((some 104), .op (.load none (.tmp 103))), ((some 105), .op (.arith .neq (.tmp 102) (.tmp 104)))]⟩, ⟨none, [((some 106), .op (.pick (.tmp 100) (.val (.val (.bool true))) (.tmp 105))), ((some 107), .op (.mov (.tmp 106)))]⟩, ⟨(some (107, false)), [((some 108), .op (.addr 1 (.tmp 8))), ((some 109), .op (.load none (.tmp 108))), ((some 110), .op (.addr 1 (.tmp 9))), ((some 111), .op (.load none (.tmp 110))), ((some 112), .call (.val (.fn 27 [] [])) [(.tmp 109), (.tmp 111)]), ((some 113), .op (.not (.tmp 112)))]⟩, ⟨none, [((some 114), .op (.pick (.tmp 107) (.val (.val (.bool true))) (.tmp 113)))]⟩]) <|
  .cond (.tmp 114) (.seq (.region false [⟨none, [((some 4), .op (.mov (.val (.val (.bool false)))))]⟩]) <|
  .ret) (.skip))) <|
  .region false [⟨none, [((some 83), .op (.mov (.tmp 7))), ((some 84), .op (.arith .add (.tmp 83) (.val (.val (.int .i64 1))))), ((some 7), .op (.mov (.tmp 84)))]⟩]
def S_gerundref09_Same : SF := ⟨.seq (.region false [⟨none, [((some 2), .op (.frz (.tmp 0))), ((some 3), .op (.frz (.tmp 1))), ((some 4), .op (.mov (.val (.val (.bool false)))))]⟩]) <|
  .seq (.seq (.region false [⟨none, [((some 10), .op (.addr 0 (.tmp 2))), ((some 11), .op (.load none (.tmp 10))), ((some 12), .op (.len (.tmp 11))), ((some 13), .op (.addr 0 (.tmp 3))), ((some 14), .op (.load none (.tmp 13))), ((some 15), .op (.len (.tmp 14))), ((some 16), .op (.arith .neq (.tmp 12) (.tmp 15))), ((some 17), .op (.mov (.tmp 16)))]⟩, ⟨(some (17, false)), [((some 18), .op (.addr 1 (.tmp 2))), ((some 19), .op (.load none (.tmp 18))), ((some 20), .op (.len (.tmp 19))), ((some 21), .op (.addr 1 (.tmp 3))), ((some 22), .op (.load none (.tmp 21))), ((some 23), .op (.len (.tmp 22))), ((some 24), .op (.arith .neq (.tmp 20) (.tmp 23)))]⟩, ⟨none, [((some 25), .op (.pick (.tmp 17) (.val (.val (.bool true))) (.tmp 24))), ((some 26), .op (.mov (.tmp 25)))]⟩, ⟨(some (26, false)), [((some 27), .op (.addr 2 (.tmp 2))), ((some 28), .op (.load none (.tmp 27))), ((some 29), .op (.len (.tmp 28))), ((some 30), .op (.addr 2 (.tmp 3))), ((some 31), .op (.load none (.tmp 30))), ((some 32), .op (.len (.tmp 31))), ((some 33), .op (.arith .neq (.tmp 29) (.tmp 32)))]⟩, ⟨none, [((some 34), .op (.pick (.tmp 26) (.val (.val (.bool true))) (.tmp 33))), ((some 35), .op (.mov (.tmp 34)))]⟩, ⟨(some (35, false)), [((some 36), .op (.addr 3 (.tmp 2))), ((some 37), .op (.load none (.tmp 36))), ((some 38), .op (.addr 3 (.tmp 3))), ((some 39), .op (.load none (.tmp 38))), ((some 40), .op (.arith .neq (.tmp 37) (.tmp 39)))]⟩, ⟨none, [((some 41), .op (.pick (.tmp 35) (.val (.val (.bool true))) (.tmp 40)))]⟩]) <|
  .cond (.tmp 41) (.seq (.region false [⟨none, [((some 4), .op (.mov (.val (.val (.bool false)))))]⟩]) <|
  .ret) (.skip)) <|
  .seq (.seq (.region false [⟨none, [((some 5), .op (.mov (.val (.val (.int .i64 0)))))]⟩]) <|
  .block 0 (.loop B_gerundref09_Same_0)) <|
  .seq (.seq (.region false [⟨none, [((some 6), .op (.mov (.val (.val (.int .i64 0)))))]⟩]) <|
  .block 2 (.loop B_gerundref09_Same_1)) <|
  .seq (.seq (.region false [⟨none, [((some 7), .op (.mov (.val (.val (.int .i64 0)))))]⟩]) <|
  .block 4 (.loop B_gerundref09_Same_2)) <|
  .seq (.region false [⟨none, [((some 4), .op (.mov (.val (.val (.bool true)))))]⟩]) <|
  .ret,
  [.tmp 4], 115⟩
theorem S_gerundref09_Same_ok : compF Tryz.prog 26 [2, 3] = some S_gerundref09_Same := by kernel_rfl


set_option maxHeartbeats 2000000 in
theorem pc_Same09 (g k : Gram) (hg : g.Ok) : PCall Tryz.prog 26 [.agg (encG g), .agg (encG k)] (gb (decide (g = k))) := by
  refine PCall.val (two_grams g k) fun H => ?_
  rw [gram_dec]
  refine MCall.of mixed S_gerundref09_Same_ok ?_
  have h1 := hg.terms
  have h2 := hg.nons
  have h3 := hg.rules
  unfold Short at h1 h2 h3
  simp (disch := omega) only [↓wr, ↓reduceIte, wq, eq_self, ne_eq, implies_true, oneV, intOp, goI, splice, sBuild, fillE, nilB, isNil, Nat.reduceEqDiff, Nat.reduceAdd, Nat.reduceLT, Nat.reduceLeDiff, Int.reduceNeg, Int.reduceToNat, reduceCtorEq, decide_true, decide_false, S_gerundref09_Same, encG, encS]
  repeat' (first | (refine GoB.dec (fun _ => ?_) (fun _ => ?_)) | (refine GoB.eq (fun _ => ?_) (fun _ => ?_)) | (refine GoB.ne (fun _ => ?_) (fun _ => ?_)) | (refine GoB.split (fun _ => ?_) (fun _ => ?_)) | (simp (disch := omega) only [↓wr, ↓reduceIte, wq, eq_self, ne_eq, implies_true, oneV, intOp, goI, splice, sBuild, fillE, nilB, isNil, Nat.reduceEqDiff, Nat.reduceAdd, Nat.reduceLT, Nat.reduceLeDiff, Int.reduceNeg, Int.reduceToNat, reduceCtorEq, decide_true, decide_false, encG, encS]))
  · rename_i e; rw [decide_eq_false (ne_len (by omega))]; rfl
  · rename_i e; rw [decide_eq_false (p := g.nons = k.nons) (ne_len (by omega))]; simp
  · rename_i e; rw [decide_eq_false (p := g.rules = k.rules) (ne_len (by omega))]; simp
  · rename_i e; rw [decide_eq_false e]; simp
  rename_i l1 l2 l3 l4
  refine LoopG.up g.terms.length (fun i T _ => g.terms.take i = k.terms.take i ∧ T 2 = .fptr (encG g) 0 ∧ T 3 = .fptr (encG k) 0 ∧ T 5 = gi i) ⟨by simp, rfl, rfl, rfl⟩ ?_
  rintro i m T H hm ⟨hi, t2, t3, t5⟩
  simp (disch := omega) only [↓wr, ↓reduceIte, wq, eq_self, ne_eq, implies_true, oneV, intOp, goI, splice, sBuild, fillE, nilB, isNil, Nat.reduceEqDiff, Nat.reduceAdd, Nat.reduceLT, Nat.reduceLeDiff, Int.reduceNeg, Int.reduceToNat, reduceCtorEq, decide_true, decide_false, B_gerundref09_Same_0, t2, t3, t5, encG, encS]
  refine GoB.dec (fun hc => ?_) (fun hc => ?_)
  · have hx := List.getElem?_eq_getElem (l := g.terms) (i := i) (by omega)
    have hy := List.getElem?_eq_getElem (l := k.terms) (i := i) (by omega)
    generalize g.terms[i]'(by omega) = x at hx
    generalize k.terms[i]'(by omega) = y at hy
    simp (disch := omega) only [↓wr, ↓reduceIte, wq, eq_self, ne_eq, implies_true, oneV, intOp, goI, splice, sBuild, fillE, nilB, isNil, Nat.reduceEqDiff, Nat.reduceAdd, Nat.reduceLT, Nat.reduceLeDiff, Int.reduceNeg, Int.reduceToNat, reduceCtorEq, decide_true, decide_false, t2, t3, t5, List.getElem?_map, hx, hy, encT, encG, encS]
    refine oldStructEq (xs := #[.string x.name, .int .i64 x.level, .int .i64 x.assoc]) (ys := #[.string y.name, .int .i64 y.level, .int .i64 y.assoc]) Tryz.underlying63 (by kernel_rfl) (by kernel_rfl) ?_ ?_ (fields_term x y) (.inr ⟨rfl, rfl⟩) ?_
    · rfl
    · rfl
    rw [term_eq]
    simp (disch := omega) only [↓wr, ↓reduceIte, wq, eq_self, ne_eq, implies_true, oneV, intOp, goI, splice, sBuild, fillE, nilB, isNil, Nat.reduceEqDiff, Nat.reduceAdd, Nat.reduceLT, Nat.reduceLeDiff, Int.reduceNeg, Int.reduceToNat, reduceCtorEq, decide_true, decide_false, t2, t3, t5]
    refine GoB.split (fun e => ?_) (fun e => ?_)
    · simp (disch := omega) only [↓wr, ↓reduceIte, wq, eq_self, ne_eq, implies_true, oneV, intOp, goI, splice, sBuild, fillE, nilB, isNil, Nat.reduceEqDiff, Nat.reduceAdd, Nat.reduceLT, Nat.reduceLeDiff, Int.reduceNeg, Int.reduceToNat, reduceCtorEq, decide_true, decide_false, t2, t3, t5]
      exact up_next hm (by omega) ⟨eq_step hx hy hi (by simpa using e), t2, t3, rfl⟩
    · simp (disch := omega) only [↓wr, ↓reduceIte, wq, eq_self, ne_eq, implies_true, oneV, intOp, goI, splice, sBuild, fillE, nilB, isNil, Nat.reduceEqDiff, Nat.reduceAdd, Nat.reduceLT, Nat.reduceLeDiff, Int.reduceNeg, Int.reduceToNat, reduceCtorEq, decide_true, decide_false, t2, t3, t5]
      rw [decide_eq_false (ne_at hx hy (by simpa using e))]; rfl
  have e1 : g.terms = k.terms := eq_end (by omega) (by omega) hi
  simp (disch := omega) only [↓wr, ↓reduceIte, wq, eq_self, ne_eq, implies_true, oneV, intOp, goI, splice, sBuild, fillE, nilB, isNil, Nat.reduceEqDiff, Nat.reduceAdd, Nat.reduceLT, Nat.reduceLeDiff, Int.reduceNeg, Int.reduceToNat, reduceCtorEq, decide_true, decide_false, t2, t3, t5]
  clear hi hc hm
  refine LoopG.up g.nons.length (fun i T _ => g.nons.take i = k.nons.take i ∧ T 2 = .fptr (encG g) 0 ∧ T 3 = .fptr (encG k) 0 ∧ T 6 = gi i) ⟨by simp, t2, t3, rfl⟩ ?_
  clear t2 t3 t5 T H i m
  rintro i m T H hm ⟨hi, t2, t3, t5⟩
  simp (disch := omega) only [↓wr, ↓reduceIte, wq, eq_self, ne_eq, implies_true, oneV, intOp, goI, splice, sBuild, fillE, nilB, isNil, Nat.reduceEqDiff, Nat.reduceAdd, Nat.reduceLT, Nat.reduceLeDiff, Int.reduceNeg, Int.reduceToNat, reduceCtorEq, decide_true, decide_false, B_gerundref09_Same_1, t2, t3, t5, encG, encS]
  refine GoB.dec (fun hc => ?_) (fun hc => ?_)
  · have hx := List.getElem?_eq_getElem (l := g.nons) (i := i) (by omega)
    have hy := List.getElem?_eq_getElem (l := k.nons) (i := i) (by omega)
    generalize g.nons[i]'(by omega) = x at hx
    generalize k.nons[i]'(by omega) = y at hy
    simp (disch := omega) only [↓wr, ↓reduceIte, wq, eq_self, ne_eq, implies_true, oneV, intOp, goI, splice, sBuild, fillE, nilB, isNil, Nat.reduceEqDiff, Nat.reduceAdd, Nat.reduceLT, Nat.reduceLeDiff, Int.reduceNeg, Int.reduceToNat, reduceCtorEq, decide_true, decide_false, t2, t3, t5, List.getElem?_map, hx, hy, encT, encG, encS, strEq_dec]
    refine GoB.split (fun e => ?_) (fun e => ?_)
    · simp (disch := omega) only [↓wr, ↓reduceIte, wq, eq_self, ne_eq, implies_true, oneV, intOp, goI, splice, sBuild, fillE, nilB, isNil, Nat.reduceEqDiff, Nat.reduceAdd, Nat.reduceLT, Nat.reduceLeDiff, Int.reduceNeg, Int.reduceToNat, reduceCtorEq, decide_true, decide_false, t2, t3, t5]
      exact up_next hm (by omega) ⟨eq_step hx hy hi (by simpa using e), t2, t3, rfl⟩
    · simp (disch := omega) only [↓wr, ↓reduceIte, wq, eq_self, ne_eq, implies_true, oneV, intOp, goI, splice, sBuild, fillE, nilB, isNil, Nat.reduceEqDiff, Nat.reduceAdd, Nat.reduceLT, Nat.reduceLeDiff, Int.reduceNeg, Int.reduceToNat, reduceCtorEq, decide_true, decide_false, t2, t3, t5]
      rw [decide_eq_false (p := g.nons = k.nons) (ne_at hx hy (by simpa using e))]; simp
  have e2 : g.nons = k.nons := eq_end (by omega) (by omega) hi
  simp (disch := omega) only [↓wr, ↓reduceIte, wq, eq_self, ne_eq, implies_true, oneV, intOp, goI, splice, sBuild, fillE, nilB, isNil, Nat.reduceEqDiff, Nat.reduceAdd, Nat.reduceLT, Nat.reduceLeDiff, Int.reduceNeg, Int.reduceToNat, reduceCtorEq, decide_true, decide_false, t2, t3, t5]
  clear hi hc hm
  refine LoopG.up g.rules.length (fun i T _ => g.rules.take i = k.rules.take i ∧ T 2 = .fptr (encG g) 0 ∧ T 3 = .fptr (encG k) 0 ∧ T 7 = gi i) ⟨by simp, t2, t3, rfl⟩ ?_
  clear t2 t3 t5 T H i m
  rintro i m T H hm ⟨hi, t2, t3, t5⟩
  simp (disch := omega) only [↓wr, ↓reduceIte, wq, eq_self, ne_eq, implies_true, oneV, intOp, goI, splice, sBuild, fillE, nilB, isNil, Nat.reduceEqDiff, Nat.reduceAdd, Nat.reduceLT, Nat.reduceLeDiff, Int.reduceNeg, Int.reduceToNat, reduceCtorEq, decide_true, decide_false, B_gerundref09_Same_2, t2, t3, t5, encG, encS]
  refine GoB.dec (fun hc => ?_) (fun hc => ?_)
  · have hx := List.getElem?_eq_getElem (l := g.rules) (i := i) (by omega)
    have hy := List.getElem?_eq_getElem (l := k.rules) (i := i) (by omega)
    have hmx : g.rules[i]'(by omega) ∈ g.rules := List.getElem_mem _
    generalize g.rules[i]'(by omega) = x at hx hmx
    generalize k.rules[i]'(by omega) = y at hy
    have hsx := (hg.rule x hmx).2.2.1
    simp (disch := omega) only [↓wr, ↓reduceIte, wq, eq_self, ne_eq, implies_true, oneV, intOp, goI, splice, sBuild, fillE, nilB, isNil, Nat.reduceEqDiff, Nat.reduceAdd, Nat.reduceLT, Nat.reduceLeDiff, Int.reduceNeg, Int.reduceToNat, reduceCtorEq, decide_true, decide_false, t2, t3, t5, List.getElem?_map, hx, hy, encR, encI, encG, encS]
    intro n hn
    try simp (disch := omega) only [↓wr, ↓reduceIte, wq, eq_self, ne_eq, implies_true, oneV, intOp, goI, splice, sBuild, fillE, nilB, isNil, Nat.reduceEqDiff, Nat.reduceAdd, Nat.reduceLT, Nat.reduceLeDiff, Int.reduceNeg, Int.reduceToNat, reduceCtorEq, decide_true, decide_false, t2, t3, t5, encR, encI]
    intro n2 hn2
    have hmn := (dead_if hn2 arr_live).1
    try simp (disch := omega) only [↓wr, ↓reduceIte, wq, eq_self, ne_eq, implies_true, oneV, intOp, goI, splice, sBuild, fillE, nilB, isNil, Nat.reduceEqDiff, Nat.reduceAdd, Nat.reduceLT, Nat.reduceLeDiff, Int.reduceNeg, Int.reduceToNat, reduceCtorEq, decide_true, decide_false, t2, t3, t5, encR, encI, hmn, hmn.symm]
    have hne : x ≠ y → V.val (Value.bool false) = V.val (Value.bool (decide (g.terms = k.terms) && (decide (g.nons = k.nons) && (decide (g.rules = k.rules) && decide (g.start = k.start))))) := fun e => by
      rw [decide_eq_false (p := g.rules = k.rules) (ne_at hx hy e)]; simp
    repeat' (first | (refine GoB.dec (fun _ => ?_) (fun _ => ?_)) | (refine GoB.eq (fun _ => ?_) (fun _ => ?_)) | (refine GoB.ne (fun _ => ?_) (fun _ => ?_)) | (refine GoB.split (fun _ => ?_) (fun _ => ?_)) | (refine CallG.pure (pc_Ints x.right y.right hsx) (by kernel_rfl) ?_) | (simp (disch := omega) only [↓wr, ↓reduceIte, wq, eq_self, ne_eq, implies_true, oneV, intOp, goI, splice, sBuild, fillE, nilB, isNil, Nat.reduceEqDiff, Nat.reduceAdd, Nat.reduceLT, Nat.reduceLeDiff, Int.reduceNeg, Int.reduceToNat, reduceCtorEq, decide_true, decide_false, t2, t3, t5, encR, encI, hmn, hmn.symm]))
    · rename_i e; exact hne fun h => e (by rw [h])
    · rename_i e; exact hne fun h => e (by rw [h])
    · rename_i e3 e2 e1
      refine up_next hm (by omega) ⟨eq_step hx hy hi ?_, t2, t3, rfl⟩
      cases x; cases y
      simp_all
    · rename_i e; exact hne fun h => by rw [h] at e; simp at e
  · have e3 : g.rules = k.rules := eq_end (by omega) (by omega) hi
    simp (disch := omega) only [↓wr, ↓reduceIte, wq, eq_self, ne_eq, implies_true, oneV, intOp, goI, splice, sBuild, fillE, nilB, isNil, Nat.reduceEqDiff, Nat.reduceAdd, Nat.reduceLT, Nat.reduceLeDiff, Int.reduceNeg, Int.reduceToNat, reduceCtorEq, decide_true, decide_false, t2, t3, t5]
    simp [e1, e2, e3, l4]

end Gv

/-
  Is a grammar reduced: what both functions answer.
  Conditions: lists that are no longer than an int says, numbers that are ints, no more than a thousand names.
-/
set_option linter.unusedSimpArgs false
set_option maxRecDepth 100000
namespace Gv
open Go Go.Proofs

/-- A grammar that is its own reduction. -/
def isRed (g : Gram) : Bool := (reduce09 g).2.2 == 0 && decide (g = (reduce09 g).1)

def S_trim_Is : SF := ⟨.seq (.region false [⟨none, [((some 1), .op (.frz (.tmp 0))), ((some 2), .op (.mov (.val (.val (.bool false)))))]⟩]) <|
  .seq (.region false [⟨none, [((some 7), .op (.load (some 4) (.tmp 1))), ((some 8), .call (.val (.fn 24 [] [])) [(.tmp 7)]), ((some 6), .op (.mov (.tmp 8))), ((some 9), .op (.ext 0 (.tmp 6))), ((some 10), .op (.ext 1 (.tmp 6))), ((some 11), .op (.ext 2 (.tmp 6))), ((some 3), .op (.alloc [(.emp 1), (.emp 1), (.emp 1), (.val (.int .i64 0))])), (none, .op (.store 4 (.tmp 3) (.tmp 9))), ((some 4), .op (.mov (.tmp 10))), ((some 5), .op (.mov (.tmp 11)))]⟩]) <|
  .seq (.region false [⟨none, [((some 12), .op (.mov (.tmp 5))), ((some 13), .op (.arith .eql (.tmp 12) (.val (.val (.int .i64 0))))), ((some 14), .op (.mov (.tmp 13)))]⟩, ⟨(some (14, true)), [((some 15), .op (.load (some 4) (.tmp 1))), ((some 16), .op (.load (some 4) (.tmp 3))), ((some 17), .call (.val (.fn 50 [] [])) [(.tmp 15), (.tmp 16)])]⟩, ⟨none, [((some 18), .op (.pick (.tmp 14) (.tmp 17) (.val (.val (.bool false))))), ((some 2), .op (.mov (.tmp 18)))]⟩]) <|
  .ret,
  [.tmp 2], 19⟩
theorem S_trim_Is_ok : compF Tryz.prog 21 [1] = some S_trim_Is := by kernel_rfl

def S_gerundref11_Is : SF := ⟨.seq (.region false [⟨none, [((some 1), .op (.frz (.tmp 0))), ((some 2), .op (.mov (.val (.val (.bool false)))))]⟩]) <|
  .seq (.region false [⟨none, [((some 7), .op (.load (some 4) (.tmp 1))), ((some 8), .call (.val (.fn 25 [] [])) [(.tmp 7)]), ((some 6), .op (.mov (.tmp 8))), ((some 9), .op (.ext 0 (.tmp 6))), ((some 10), .op (.ext 1 (.tmp 6))), ((some 11), .op (.ext 2 (.tmp 6))), ((some 3), .op (.alloc [(.emp 1), (.emp 1), (.emp 1), (.val (.int .i64 0))])), (none, .op (.store 4 (.tmp 3) (.tmp 9))), ((some 4), .op (.mov (.tmp 10))), ((some 5), .op (.mov (.tmp 11)))]⟩]) <|
  .seq (.region false [⟨none, [((some 12), .op (.mov (.tmp 5))), ((some 13), .op (.arith .eql (.tmp 12) (.val (.val (.int .i64 0))))), ((some 14), .op (.mov (.tmp 13)))]⟩, ⟨(some (14, true)), [((some 15), .op (.load (some 4) (.tmp 1))), ((some 16), .op (.load (some 4) (.tmp 3))), ((some 17), .call (.val (.fn 26 [] [])) [(.tmp 15), (.tmp 16)])]⟩, ⟨none, [((some 18), .op (.pick (.tmp 14) (.tmp 17) (.val (.val (.bool false))))), ((some 2), .op (.mov (.tmp 18)))]⟩]) <|
  .ret,
  [.tmp 2], 19⟩
theorem S_gerundref11_Is_ok : compF Tryz.prog 22 [1] = some S_gerundref11_Is := by kernel_rfl


theorem pc_tIs (g : Gram) (hg : g.Ok) (hs : g.Small) : PCall Tryz.prog 21 [.agg (encG g)] (gb (isRed g)) := by
  refine PCall.val (gg_tree g) fun H => ?_
  refine MCall.of mixed S_trim_Is_ok ?_
  simp (disch := omega) only [↓wr, ↓reduceIte, wq, eq_self, ne_eq, implies_true, oneV, intOp, goI, splice, sBuild, fillE, nilB, isNil, Nat.reduceEqDiff, Nat.reduceAdd, Nat.reduceLT, Nat.reduceLeDiff, Int.reduceNeg, Int.reduceToNat, reduceCtorEq, decide_true, decide_false, S_trim_Is, encG, encS]
  refine CallG.pure (pn_tReduce g hg hs).pure (by kernel_rfl) ?_
  unfold isRed
  generalize reduce09 g = x
  obtain ⟨k, il, e⟩ := x
  simp (disch := omega) only [↓wr, ↓reduceIte, wq, eq_self, ne_eq, implies_true, oneV, intOp, goI, splice, sBuild, fillE, nilB, isNil, Nat.reduceEqDiff, Nat.reduceAdd, Nat.reduceLT, Nat.reduceLeDiff, Int.reduceNeg, Int.reduceToNat, reduceCtorEq, decide_true, decide_false, outR, encG, encS]
  intro n hn
  refine GoB.eq (fun h => ?_) (fun h => ?_)
  · simp (disch := omega) only [↓wr, ↓reduceIte, wq, eq_self, ne_eq, implies_true, oneV, intOp, goI, splice, sBuild, fillE, nilB, isNil, Nat.reduceEqDiff, Nat.reduceAdd, Nat.reduceLT, Nat.reduceLeDiff, Int.reduceNeg, Int.reduceToNat, reduceCtorEq, decide_true, decide_false, outR, encG, encS]
    refine CallG.pure (pc_cSame g k hg) (by kernel_rfl) ?_
    simp (disch := omega) only [↓wr, ↓reduceIte, wq, eq_self, ne_eq, implies_true, oneV, intOp, goI, splice, sBuild, fillE, nilB, isNil, Nat.reduceEqDiff, Nat.reduceAdd, Nat.reduceLT, Nat.reduceLeDiff, Int.reduceNeg, Int.reduceToNat, reduceCtorEq, decide_true, decide_false]
    simp [h]
  · simp (disch := omega) only [↓wr, ↓reduceIte, wq, eq_self, ne_eq, implies_true, oneV, intOp, goI, splice, sBuild, fillE, nilB, isNil, Nat.reduceEqDiff, Nat.reduceAdd, Nat.reduceLT, Nat.reduceLeDiff, Int.reduceNeg, Int.reduceToNat, reduceCtorEq, decide_true, decide_false]
    simp [h]

theorem pc_gIs (g : Gram) (hg : g.Ok) : PCall Tryz.prog 22 [.agg (encG g)] (gb (isRed g)) := by
  refine PCall.val (gg_tree g) fun H => ?_
  refine MCall.of mixed S_gerundref11_Is_ok ?_
  simp (disch := omega) only [↓wr, ↓reduceIte, wq, eq_self, ne_eq, implies_true, oneV, intOp, goI, splice, sBuild, fillE, nilB, isNil, Nat.reduceEqDiff, Nat.reduceAdd, Nat.reduceLT, Nat.reduceLeDiff, Int.reduceNeg, Int.reduceToNat, reduceCtorEq, decide_true, decide_false, S_gerundref11_Is, encG, encS]
  refine CallG.pure (pn_Reduce11 g hg).pure (by kernel_rfl) ?_
  unfold isRed
  generalize reduce09 g = x
  obtain ⟨k, il, e⟩ := x
  simp (disch := omega) only [↓wr, ↓reduceIte, wq, eq_self, ne_eq, implies_true, oneV, intOp, goI, splice, sBuild, fillE, nilB, isNil, Nat.reduceEqDiff, Nat.reduceAdd, Nat.reduceLT, Nat.reduceLeDiff, Int.reduceNeg, Int.reduceToNat, reduceCtorEq, decide_true, decide_false, outR, encG, encS]
  intro n hn
  refine GoB.eq (fun h => ?_) (fun h => ?_)
  · simp (disch := omega) only [↓wr, ↓reduceIte, wq, eq_self, ne_eq, implies_true, oneV, intOp, goI, splice, sBuild, fillE, nilB, isNil, Nat.reduceEqDiff, Nat.reduceAdd, Nat.reduceLT, Nat.reduceLeDiff, Int.reduceNeg, Int.reduceToNat, reduceCtorEq, decide_true, decide_false, outR, encG, encS]
    refine CallG.pure (pc_Same09 g k hg) (by kernel_rfl) ?_
    simp (disch := omega) only [↓wr, ↓reduceIte, wq, eq_self, ne_eq, implies_true, oneV, intOp, goI, splice, sBuild, fillE, nilB, isNil, Nat.reduceEqDiff, Nat.reduceAdd, Nat.reduceLT, Nat.reduceLeDiff, Int.reduceNeg, Int.reduceToNat, reduceCtorEq, decide_true, decide_false]
    simp [h]
  · simp (disch := omega) only [↓wr, ↓reduceIte, wq, eq_self, ne_eq, implies_true, oneV, intOp, goI, splice, sBuild, fillE, nilB, isNil, Nat.reduceEqDiff, Nat.reduceAdd, Nat.reduceLT, Nat.reduceLeDiff, Int.reduceNeg, Int.reduceToNat, reduceCtorEq, decide_true, decide_false]
    simp [h]

end Gv
