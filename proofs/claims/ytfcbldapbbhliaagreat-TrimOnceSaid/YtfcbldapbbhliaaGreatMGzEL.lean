/-
  Part 12 of the proof: what the machine does and what the functions answer.
  Conditions: those that each lemma names.
-/
import Derived.ProofKit
import Derived.SizedLaws
import Derived.Test.YtfcbldapbbhliaaGreatMGzEK
set_option linter.unusedSimpArgs false
set_option linter.unusedVariables false

/-
  The law's own question, whether the functions are alive; then the law itself.
  Conditions: lists that are no longer than an int says, numbers that are ints.
-/
set_option linter.unusedSimpArgs false
set_option maxRecDepth 100000
namespace Gv
open Go Go.Proofs

theorem red1 : reduce09 gram1 = (⟨gram1.terms, [⟨#[115]⟩], [⟨0, [1], 1⟩, ⟨0, [], (-1)⟩], 0⟩, [1, 2], 0) := by kernel_rfl
theorem red2 : reduce09 gram2 = (noG, [], 9) := by kernel_rfl
theorem red3 : reduce09 noG = (noG, [], 1) := by kernel_rfl
theorem g1f : grown09 gram1 false = [true, false, false] := by kernel_rfl
theorem g1t : grown09 gram1 true = [true, false, true] := by kernel_rfl
theorem g1r : reach09 gram1 = [true, false, false] := by kernel_rfl
def gram1r : Gram := ⟨gram1.terms, [⟨#[115]⟩], [⟨0, [1], 1⟩, ⟨0, [], (-1)⟩], 0⟩
theorem is1 : isRed gram1 = false := by kernel_rfl
theorem is2 : isRed gram1r = true := by kernel_rfl

theorem View.set_at {H : View} {id : Nat} {o : AObj} (h : H id = o) : H.set id o = H := by
  funext m
  simp only [View.set]
  split
  · rename_i e; subst e; exact h.symm
  · rfl

/-- Bytes, said to be bytes again. -/
theorem oldConvSame {P : Program} {T : Env} {H : View} {K : V → View → Prop} {w : Veil (T, H, K)} {t e ty : TypeId} {x : Operand} {id off len esz z : Nat} {es : List (List V)} (hu : P.underlying t = some (.slice e)) (he : P.underlying e = some (.int .u8))
    (hx : ev T x = .sl id off len esz) (hl : len ≠ 0) (hH : H id = .arr z es) (hk : K (.sl id off len esz) H) : GoOld P (.convert t t x) ty T H K w := by
  intro n _
  have hb : bytesConv P t t = true := by simp [bytesConv, hu]
  refine ⟨.sl id off len esz, .upd id (.arr z es), [id], ?_, ?_⟩
  · simp only [sI, aop, oper]
    rw [if_pos hb, hx]
    simp [aConvert, hu, he, hH, hl]
  · show K _ (H.set id (.arr z es))
    rw [View.set_at hH]; exact hk

theorem lent_bytes {H : View} {n : Nat} (l : List Int) (h : H n = .arr 1 (l.map fun x => [gy x])) : Lent H (.sl n 0 l.length 1) (encY l) :=
  Lent.own (.inr ⟨n, by simp, h⟩) fun e he v hv => by
    obtain ⟨x, _, rfl⟩ := List.mem_map.1 he
    simp at hv; subst hv; exact .val _

theorem gram1_ok : gram1.Ok := by
  refine ⟨by unfold Short; decide, by unfold Short; decide, by unfold Short; decide, by unfold In64; decide, ?_, ?_⟩
  · intro t ht; simp [gram1] at ht; rcases ht with rfl | rfl | rfl | rfl <;> unfold In64 <;> decide
  · intro r hr; simp [gram1] at hr; rcases hr with rfl | rfl | rfl | rfl | rfl <;> unfold In64 Short <;> decide
theorem gram1r_ok : gram1r.Ok := by
  refine ⟨by unfold Short; decide, by unfold Short; decide, by unfold Short; decide, by unfold In64; decide, ?_, ?_⟩
  · intro t ht; simp [gram1r, gram1] at ht; rcases ht with rfl | rfl | rfl | rfl <;> unfold In64 <;> decide
  · intro r hr; simp [gram1r] at hr; rcases hr with rfl | rfl <;> unfold In64 Short <;> decide
theorem gram2_ok : gram2.Ok := by
  refine ⟨by unfold Short; decide, by unfold Short; decide, by unfold Short; decide, by unfold In64; decide, ?_, ?_⟩
  · intro t ht; simp [gram2] at ht; rcases ht with rfl | rfl <;> unfold In64 <;> decide
  · intro r hr; simp [gram2] at hr; rcases hr with rfl | rfl <;> unfold In64 Short <;> decide
theorem noG_ok : noG.Ok := by
  refine ⟨by unfold Short; decide, by unfold Short; decide, by unfold Short; decide, by unfold In64; decide, ?_, ?_⟩
  · intro t ht; simp [noG] at ht
  · intro r hr; simp [noG] at hr
theorem gram1_small : gram1.Small := ⟨by decide⟩
theorem gram1r_small : gram1r.Small := ⟨by decide⟩
theorem gram2_small : gram2.Small := ⟨by decide⟩
theorem noG_small : noG.Small := ⟨by decide⟩

theorem tRed1 : PNew Tryz.prog 24 [.agg (encG gram1)] (outR (gram1r, [1, 2], 0)) := by
  have := pn_tReduce gram1 gram1_ok gram1_small
  rwa [red1] at this
theorem tRed2 : PNew Tryz.prog 24 [.agg (encG gram2)] (outR (noG, [], 9)) := by
  have := pn_tReduce gram2 gram2_ok gram2_small
  rwa [red2] at this
theorem tRed3 : PNew Tryz.prog 24 [.agg (encG noG)] (outR (noG, [], 1)) := by
  have := pn_tReduce noG noG_ok noG_small
  rwa [red3] at this

def S_gerundlaw11_alive : SF := ⟨.seq (.region false [⟨none, [((some 0), .op (.mov (.val (.val (.bool false)))))]⟩]) <|
  .seq (.region false [⟨none, [((some 17), .op (.bslice 46 1 [(.val (.int .u8 0))] [(0, (.val (.val (.int .u8 37)))), (1, (.val (.val (.int .u8 37)))), (2, (.val (.val (.int .u8 32)))), (3, (.val (.val (.int .u8 115)))), (4, (.val (.val (.int .u8 32)))), (5, (.val (.val (.int .u8 58)))), (6, (.val (.val (.int .u8 32)))), (7, (.val (.val (.int .u8 39)))), (8, (.val (.val (.int .u8 97)))), (9, (.val (.val (.int .u8 39)))), (10, (.val (.val (.int .u8 32)))), (11, (.val (.val (.int .u8 117)))), (12, (.val (.val (.int .u8 32)))), (13, (.val (.val (.int .u8 124)))), (14, (.val (.val (.int .u8 32)))), (15, (.val (.val (.int .u8 39)))), (16, (.val (.val (.int .u8 98)))), (17, (.val (.val (.int .u8 39)))), (18, (.val (.val (.int .u8 32)))), (19, (.val (.val (.int .u8 124)))), (20, (.val (.val (.int .u8 32)))), (21, (.val (.val (.int .u8 59)))), (22, (.val (.val (.int .u8 32)))), (23, (.val (.val (.int .u8 117)))), (24, (.val (.val (.int .u8 32)))), (25, (.val (.val (.int .u8 58)))), (26, (.val (.val (.int .u8 32)))), (27, (.val (.val (.int .u8 117)))), (28, (.val (.val (.int .u8 32)))), (29, (.val (.val (.int .u8 39)))), (30, (.val (.val (.int .u8 99)))), (31, (.val (.val (.int .u8 39)))), (32, (.val (.val (.int .u8 32)))), (33, (.val (.val (.int .u8 59)))), (34, (.val (.val (.int .u8 32)))), (35, (.val (.val (.int .u8 118)))), (36, (.val (.val (.int .u8 32)))), (37, (.val (.val (.int .u8 58)))), (38, (.val (.val (.int .u8 32)))), (39, (.val (.val (.int .u8 39)))), (40, (.val (.val (.int .u8 100)))), (41, (.val (.val (.int .u8 39)))), (42, (.val (.val (.int .u8 32)))), (43, (.val (.val (.int .u8 115)))), (44, (.val (.val (.int .u8 32)))), (45, (.val (.val (.int .u8 59))))])), ((some 18), .op (.old (.convert 53 53 (.tmp 17)) 53)), ((some 19), .call (.val (.fn 40 [] [])) [(.tmp 18)]), ((some 16), .op (.mov (.tmp 19))), ((some 20), .op (.ext 0 (.tmp 16))), ((some 21), .op (.ext 1 (.tmp 16))), ((some 22), .op (.ext 2 (.tmp 16))), ((some 1), .op (.alloc [(.emp 1), (.emp 1), (.emp 1), (.val (.int .i64 0))])), (none, .op (.store 4 (.tmp 1) (.tmp 20))), ((some 2), .op (.mov (.tmp 21))), ((some 3), .op (.mov (.tmp 22)))]⟩]) <|
  .seq (.region false [⟨none, [((some 24), .op (.load (some 4) (.tmp 1))), ((some 25), .call (.val (.fn 24 [] [])) [(.tmp 24)]), ((some 23), .op (.mov (.tmp 25))), ((some 26), .op (.ext 0 (.tmp 23))), ((some 27), .op (.ext 1 (.tmp 23))), ((some 28), .op (.ext 2 (.tmp 23))), ((some 4), .op (.alloc [(.emp 1), (.emp 1), (.emp 1), (.val (.int .i64 0))])), (none, .op (.store 4 (.tmp 4) (.tmp 26))), ((some 5), .op (.mov (.tmp 27))), ((some 6), .op (.mov (.tmp 28)))]⟩]) <|
  .seq (.region false [⟨none, [((some 30), .op (.bslice 22 1 [(.val (.int .u8 0))] [(0, (.val (.val (.int .u8 37)))), (1, (.val (.val (.int .u8 37)))), (2, (.val (.val (.int .u8 32)))), (3, (.val (.val (.int .u8 115)))), (4, (.val (.val (.int .u8 32)))), (5, (.val (.val (.int .u8 58)))), (6, (.val (.val (.int .u8 32)))), (7, (.val (.val (.int .u8 117)))), (8, (.val (.val (.int .u8 32)))), (9, (.val (.val (.int .u8 59)))), (10, (.val (.val (.int .u8 32)))), (11, (.val (.val (.int .u8 117)))), (12, (.val (.val (.int .u8 32)))), (13, (.val (.val (.int .u8 58)))), (14, (.val (.val (.int .u8 32)))), (15, (.val (.val (.int .u8 117)))), (16, (.val (.val (.int .u8 32)))), (17, (.val (.val (.int .u8 39)))), (18, (.val (.val (.int .u8 97)))), (19, (.val (.val (.int .u8 39)))), (20, (.val (.val (.int .u8 32)))), (21, (.val (.val (.int .u8 59))))])), ((some 31), .op (.old (.convert 53 53 (.tmp 30)) 53)), ((some 32), .call (.val (.fn 40 [] [])) [(.tmp 31)]), ((some 29), .op (.mov (.tmp 32))), ((some 33), .op (.ext 0 (.tmp 29))), ((some 34), .op (.ext 1 (.tmp 29))), ((some 35), .op (.ext 2 (.tmp 29))), ((some 7), .op (.alloc [(.emp 1), (.emp 1), (.emp 1), (.val (.int .i64 0))])), (none, .op (.store 4 (.tmp 7) (.tmp 33))), ((some 8), .op (.mov (.tmp 34))), ((some 9), .op (.mov (.tmp 35)))]⟩]) <|
  .seq (.region false [⟨none, [((some 37), .op (.load (some 4) (.tmp 7))), ((some 38), .call (.val (.fn 24 [] [])) [(.tmp 37)]), ((some 36), .op (.mov (.tmp 38))), ((some 39), .op (.ext 0 (.tmp 36))), ((some 40), .op (.ext 1 (.tmp 36))), ((some 41), .op (.ext 2 (.tmp 36))), ((some 10), .op (.alloc [(.emp 1), (.emp 1), (.emp 1), (.val (.int .i64 0))])), (none, .op (.store 4 (.tmp 10) (.tmp 39))), ((some 11), .op (.mov (.tmp 40))), ((some 12), .op (.mov (.tmp 41)))]⟩]) <|
  .seq (.region false [⟨none, [((some 43), .op (.build [(.emp 1), (.emp 1), (.emp 1), (.val (.int .i64 0))] [])), ((some 44), .call (.val (.fn 24 [] [])) [(.tmp 43)]), ((some 42), .op (.mov (.tmp 44))), ((some 45), .op (.ext 0 (.tmp 42))), ((some 46), .op (.ext 1 (.tmp 42))), ((some 47), .op (.ext 2 (.tmp 42))), ((some 13), .op (.alloc [(.emp 1), (.emp 1), (.emp 1), (.val (.int .i64 0))])), (none, .op (.store 4 (.tmp 13) (.tmp 45))), ((some 14), .op (.mov (.tmp 46))), ((some 15), .op (.mov (.tmp 47)))]⟩]) <|
  .seq (.region false [⟨none, [((some 48), .op (.mov (.tmp 6))), ((some 49), .op (.arith .eql (.tmp 48) (.val (.val (.int .i64 0))))), ((some 50), .op (.mov (.tmp 49)))]⟩, ⟨(some (50, true)), [((some 51), .op (.mov (.tmp 12))), ((some 52), .op (.arith .eql (.tmp 51) (.val (.val (.int .i64 9)))))]⟩, ⟨none, [((some 53), .op (.pick (.tmp 50) (.tmp 52) (.val (.val (.bool false))))), ((some 54), .op (.mov (.tmp 53)))]⟩, ⟨(some (54, true)), [((some 55), .op (.mov (.tmp 15))), ((some 56), .op (.arith .eql (.tmp 55) (.val (.val (.int .i64 1)))))]⟩, ⟨none, [((some 57), .op (.pick (.tmp 54) (.tmp 56) (.val (.val (.bool false))))), ((some 58), .op (.mov (.tmp 57)))]⟩, ⟨(some (58, true)), [((some 59), .op (.addr 1 (.tmp 4))), ((some 60), .op (.load none (.tmp 59))), ((some 61), .op (.len (.tmp 60))), ((some 62), .op (.arith .eql (.tmp 61) (.val (.val (.int .i64 1)))))]⟩, ⟨none, [((some 63), .op (.pick (.tmp 58) (.tmp 62) (.val (.val (.bool false))))), ((some 64), .op (.mov (.tmp 63)))]⟩, ⟨(some (64, true)), [((some 65), .op (.addr 2 (.tmp 4))), ((some 66), .op (.load none (.tmp 65))), ((some 67), .op (.len (.tmp 66))), ((some 68), .op (.arith .eql (.tmp 67) (.val (.val (.int .i64 2)))))]⟩, ⟨none, [((some 69), .op (.pick (.tmp 64) (.tmp 68) (.val (.val (.bool false))))), ((some 70), .op (.mov (.tmp 69)))]⟩, ⟨(some (70, true)), [((some 71), .op (.addr 0 (.tmp 4))), ((some 72), .op (.load none (.tmp 71))), ((some 73), .op (.len (.tmp 72))), ((some 74), .op (.arith .eql (.tmp 73) (.val (.val (.int .i64 4)))))]⟩, ⟨none, [((some 75), .op (.pick (.tmp 70) (.tmp 74) (.val (.val (.bool false))))), ((some 76), .op (.mov (.tmp 75)))]⟩, ⟨(some (76, true)), [((some 77), .op (.mov (.tmp 5))), ((some 78), .op (.bslice 2 1 [(.val (.int .i64 0))] [(0, (.val (.val (.int .i64 1)))), (1, (.val (.val (.int .i64 2))))])), ((some 79), .call (.val (.fn 27 [] [])) [(.tmp 77), (.tmp 78)])]⟩, ⟨none, [((some 80), .op (.pick (.tmp 76) (.tmp 79) (.val (.val (.bool false))))), ((some 81), .op (.mov (.tmp 80)))]⟩, ⟨(some (81, true)), [((some 82), .op (.load (some 4) (.tmp 1))), ((some 83), .call (.val (.fn 15 [] [])) [(.tmp 82)]), ((some 84), .op (.bslice 3 1 [(.val (.bool false))] [(0, (.val (.val (.bool true)))), (1, (.val (.val (.bool false)))), (2, (.val (.val (.bool false))))])), ((some 85), .call (.val (.fn 14 [] [])) [(.tmp 83), (.tmp 84)])]⟩, ⟨none, [((some 86), .op (.pick (.tmp 81) (.tmp 85) (.val (.val (.bool false))))), ((some 87), .op (.mov (.tmp 86)))]⟩, ⟨(some (87, true)), [((some 88), .op (.load (some 4) (.tmp 1))), ((some 89), .call (.val (.fn 17 [] [])) [(.tmp 88)]), ((some 90), .op (.bslice 3 1 [(.val (.bool false))] [(0, (.val (.val (.bool true)))), (1, (.val (.val (.bool false)))), (2, (.val (.val (.bool true))))])), ((some 91), .call (.val (.fn 14 [] [])) [(.tmp 89), (.tmp 90)])]⟩, ⟨none, [((some 92), .op (.pick (.tmp 87) (.tmp 91) (.val (.val (.bool false))))), ((some 93), .op (.mov (.tmp 92)))]⟩, ⟨(some (93, true)), [((some 94), .op (.load (some 4) (.tmp 1))), ((some 95), .call (.val (.fn 19 [] [])) [(.tmp 94)]), ((some 96), .op (.bslice 3 1 [(.val (.bool false))] [(0, (.val (.val (.bool true)))), (1, (.val (.val (.bool false)))), (2, (.val (.val (.bool false))))])), ((some 97), .call (.val (.fn 14 [] [])) [(.tmp 95), (.tmp 96)])]⟩, ⟨none, [((some 98), .op (.pick (.tmp 93) (.tmp 97) (.val (.val (.bool false))))), ((some 99), .op (.mov (.tmp 98)))]⟩, ⟨(some (99, true)), [((some 100), .op (.load (some 4) (.tmp 4))), ((some 101), .call (.val (.fn 21 [] [])) [(.tmp 100)])]⟩, ⟨none, [((some 102), .op (.pick (.tmp 99) (.tmp 101) (.val (.val (.bool false))))), ((some 103), .op (.mov (.tmp 102)))]⟩, ⟨(some (103, true)), [((some 104), .op (.load (some 4) (.tmp 1))), ((some 105), .call (.val (.fn 21 [] [])) [(.tmp 104)]), ((some 106), .op (.not (.tmp 105)))]⟩, ⟨none, [((some 107), .op (.pick (.tmp 103) (.tmp 106) (.val (.val (.bool false))))), ((some 0), .op (.mov (.tmp 107)))]⟩]) <|
  .ret,
  [.tmp 0], 108⟩
theorem S_gerundlaw11_alive_ok : compF Tryz.prog 12 [] = some S_gerundlaw11_alive := by kernel_rfl


/-- A call after which only so much is known of the store. -/
theorem CallG.lendAs {P : Program} {q : Bool} {f : FuncId} {H : View} {vs ts : List V} {K : V → View → Prop} {v : Veil (H, K)} {t : V} (Φ : View → Prop) (hc : PCall P f ts t) (hok : calleeOk P f = true) (hf : Bare t) (hl : Lents H vs ts) (hΦ : Φ H) (hk : ∀ H, Φ H → K t H) : CallG P q f vs H K v :=
  CallG.lend hc hok hf hl (hk H hΦ)

/-- No grammar at all. -/
theorem lent_noG {H : View} : Lent H (.agg [.emp 1, .emp 1, .emp 1, .val (.int .i64 0)]) (.agg (encG noG)) := by
  intro h _
  refine .agg _ _ rfl fun j hj => ?_
  match j, hj with
  | 0, _ => exact .emp _
  | 1, _ => exact .emp _
  | 2, _ => exact .emp _
  | 3, _ => exact .tree _ (.val _)
  | n + 4, hj => exact absurd hj (by simp only [List.length_cons, List.length_nil]; omega)

set_option maxHeartbeats 4000000 in
theorem pc_alive_of (g1 r1 g2 : Gram) (k1 : g1.Ok) (k2 : r1.Ok) (s1 : g1.Small) (s2 : r1.Small) (h1 : PNew Tryz.prog 40 [encY text1] (readOut g1)) (h2 : PNew Tryz.prog 40 [encY text2] (readOut g2))
    (c1 : PNew Tryz.prog 24 [.agg (encG g1)] (outR (r1, [1, 2], 0))) (c2 : PNew Tryz.prog 24 [.agg (encG g2)] (outR (noG, [], 9))) (c3 : PNew Tryz.prog 24 [.agg (encG noG)] (outR (noG, [], 1)))
    (l1 : r1.nons.length = 1) (l2 : r1.rules.length = 2) (l3 : r1.terms.length = 4)
    (e1 : grown09 g1 false = [true, false, false]) (e2 : grown09 g1 true = [true, false, true]) (e3 : reach09 g1 = [true, false, false]) (i1 : isRed r1 = true) (i2 : isRed g1 = false) : PCall Tryz.prog 12 [] (gb true) := by
  refine PCall.val (by simp) fun H => ?_
  refine MCall.of mixed S_gerundlaw11_alive_ok ?_
  simp (disch := omega) only [↓wr, ↓reduceIte, wq, eq_self, ne_eq, implies_true, oneV, intOp, goI, splice, sBuild, fillE, nilB, isNil, Nat.reduceEqDiff, Nat.reduceAdd, Nat.reduceLT, Nat.reduceLeDiff, Int.reduceNeg, Int.reduceToNat, reduceCtorEq, decide_true, decide_false, S_gerundlaw11_alive]
  intro n1 hn1
  try simp (disch := omega) only [↓wr, ↓reduceIte, wq, eq_self, ne_eq, implies_true, oneV, intOp, goI, splice, sBuild, fillE, nilB, isNil, Nat.reduceEqDiff, Nat.reduceAdd, Nat.reduceLT, Nat.reduceLeDiff, Int.reduceNeg, Int.reduceToNat, reduceCtorEq, decide_true, decide_false]
  generalize t1 : text1.map (fun x => [gy x]) = es1
  have t1' := t1
  simp only [text1, List.map_cons, List.map_nil] at t1'
  rw [t1']
  refine oldConvSame (id := n1) (len := 46) Tryz.underlying53 Tryz.underlying5 rfl (by omega) (by simp only [View.set, if_true]; rfl) ?_
  simp (disch := omega) only [↓wr, ↓reduceIte, wq, eq_self, ne_eq, implies_true, oneV, intOp, goI, splice, sBuild, fillE, nilB, isNil, Nat.reduceEqDiff, Nat.reduceAdd, Nat.reduceLT, Nat.reduceLeDiff, Int.reduceNeg, Int.reduceToNat, reduceCtorEq, decide_true, decide_false]
  refine CallG.lendN h1 (by kernel_rfl) ⟨lent_bytes text1 (by simp only [View.set, if_true, t1]), trivial⟩ ?_
  clear t1 t1' hn1
  generalize H.set n1 (AObj.arr 1 es1) = H1
  clear H
  simp (disch := omega) only [↓wr, ↓reduceIte, wq, eq_self, ne_eq, implies_true, oneV, intOp, goI, splice, sBuild, fillE, nilB, isNil, Nat.reduceEqDiff, Nat.reduceAdd, Nat.reduceLT, Nat.reduceLeDiff, Int.reduceNeg, Int.reduceToNat, reduceCtorEq, decide_true, decide_false, readOut, encG, encS]
  intro n2 hn2
  refine CallG.pure c1.pure (by kernel_rfl) ?_
  simp (disch := omega) only [↓wr, ↓reduceIte, wq, eq_self, ne_eq, implies_true, oneV, intOp, goI, splice, sBuild, fillE, nilB, isNil, Nat.reduceEqDiff, Nat.reduceAdd, Nat.reduceLT, Nat.reduceLeDiff, Int.reduceNeg, Int.reduceToNat, reduceCtorEq, decide_true, decide_false, outR, encG, encS]
  intro n3 hn3
  have d32 := (dead_if hn3 arr_live).1
  try simp (disch := omega) only [↓wr, ↓reduceIte, wq, eq_self, ne_eq, implies_true, oneV, intOp, goI, splice, sBuild, fillE, nilB, isNil, Nat.reduceEqDiff, Nat.reduceAdd, Nat.reduceLT, Nat.reduceLeDiff, Int.reduceNeg, Int.reduceToNat, reduceCtorEq, decide_true, decide_false]
  intro n4 hn4
  have d43 := (dead_if hn4 arr_live).1
  have d42 := (dead_if (dead_if (dead_if hn4 arr_live).2 arr_live).2 arr_live).1
  try simp (disch := omega) only [↓wr, ↓reduceIte, wq, eq_self, ne_eq, implies_true, oneV, intOp, goI, splice, sBuild, fillE, nilB, isNil, Nat.reduceEqDiff, Nat.reduceAdd, Nat.reduceLT, Nat.reduceLeDiff, Int.reduceNeg, Int.reduceToNat, reduceCtorEq, decide_true, decide_false]
  generalize t1 : text2.map (fun x => [gy x]) = es2
  have t1' := t1
  simp only [text2, List.map_cons, List.map_nil] at t1'
  rw [t1']
  refine oldConvSame (id := n4) (len := 22) Tryz.underlying53 Tryz.underlying5 rfl (by omega) (by simp only [View.set, if_true]; rfl) ?_
  simp (disch := omega) only [↓wr, ↓reduceIte, wq, eq_self, ne_eq, implies_true, oneV, intOp, goI, splice, sBuild, fillE, nilB, isNil, Nat.reduceEqDiff, Nat.reduceAdd, Nat.reduceLT, Nat.reduceLeDiff, Int.reduceNeg, Int.reduceToNat, reduceCtorEq, decide_true, decide_false]
  refine CallG.lendN h2 (by kernel_rfl) ⟨lent_bytes text2 (by simp only [View.set, if_true, t1]), trivial⟩ ?_
  clear t1 t1'
  simp (disch := omega) only [↓wr, ↓reduceIte, wq, eq_self, ne_eq, implies_true, oneV, intOp, goI, splice, sBuild, fillE, nilB, isNil, Nat.reduceEqDiff, Nat.reduceAdd, Nat.reduceLT, Nat.reduceLeDiff, Int.reduceNeg, Int.reduceToNat, reduceCtorEq, decide_true, decide_false, readOut, encG, encS]
  intro n5 hn5
  refine CallG.pure c2.pure (by kernel_rfl) ?_
  simp (disch := omega) only [↓wr, ↓reduceIte, wq, eq_self, ne_eq, implies_true, oneV, intOp, goI, splice, sBuild, fillE, nilB, isNil, Nat.reduceEqDiff, Nat.reduceAdd, Nat.reduceLT, Nat.reduceLeDiff, Int.reduceNeg, Int.reduceToNat, reduceCtorEq, decide_true, decide_false, outR, encG, encS]
  intro n6 hn6
  try simp (disch := omega) only [↓wr, ↓reduceIte, wq, eq_self, ne_eq, implies_true, oneV, intOp, goI, splice, sBuild, fillE, nilB, isNil, Nat.reduceEqDiff, Nat.reduceAdd, Nat.reduceLT, Nat.reduceLeDiff, Int.reduceNeg, Int.reduceToNat, reduceCtorEq, decide_true, decide_false, noG, List.map_nil]
  refine CallG.lendN c3 (by kernel_rfl) ⟨lent_noG, trivial⟩ ?_
  simp (disch := omega) only [↓wr, ↓reduceIte, wq, eq_self, ne_eq, implies_true, oneV, intOp, goI, splice, sBuild, fillE, nilB, isNil, Nat.reduceEqDiff, Nat.reduceAdd, Nat.reduceLT, Nat.reduceLeDiff, Int.reduceNeg, Int.reduceToNat, reduceCtorEq, decide_true, decide_false, outR, encG, encS]
  intro n7 hn7
  have d54 := (dead_if hn5 arr_live).1
  have hn5 := (dead_if hn5 arr_live).2
  have d53 := (dead_if hn5 arr_live).1
  have hn5 := (dead_if (dead_if hn5 arr_live).2 arr_live).2
  have d52 := (dead_if hn5 arr_live).1
  have d65 := (dead_if hn6 arr_live).1
  have hn6 := (dead_if (dead_if hn6 arr_live).2 arr_live).2
  have d64 := (dead_if hn6 arr_live).1
  have hn6 := (dead_if hn6 arr_live).2
  have d63 := (dead_if hn6 arr_live).1
  have hn6 := (dead_if (dead_if hn6 arr_live).2 arr_live).2
  have d62 := (dead_if hn6 arr_live).1
  have d76 := (dead_if hn7 arr_live).1
  have hn7 := (dead_if (dead_if hn7 arr_live).2 arr_live).2
  have d75 := (dead_if hn7 arr_live).1
  have hn7 := (dead_if (dead_if hn7 arr_live).2 arr_live).2
  have d74 := (dead_if hn7 arr_live).1
  have hn7 := (dead_if hn7 arr_live).2
  have d73 := (dead_if hn7 arr_live).1
  have hn7 := (dead_if (dead_if hn7 arr_live).2 arr_live).2
  have d72 := (dead_if hn7 arr_live).1
  try simp (disch := omega) only [↓wr, ↓reduceIte, wq, eq_self, ne_eq, implies_true, oneV, intOp, goI, splice, sBuild, fillE, nilB, isNil, Nat.reduceEqDiff, Nat.reduceAdd, Nat.reduceLT, Nat.reduceLeDiff, Int.reduceNeg, Int.reduceToNat, reduceCtorEq, decide_true, decide_false, d32, d43, d42, d54, d53, d52, d65, d64, d63, d62, d76, d75, d74, d73, d72, d32.symm, d43.symm, d42.symm, d54.symm, d53.symm, d52.symm, d65.symm, d64.symm, d63.symm, d62.symm, d76.symm, d75.symm, d74.symm, d73.symm, d72.symm]
  repeat' (first | (refine GoB.dec (fun _ => ?_) (fun _ => ?_)) | (refine GoB.eq (fun _ => ?_) (fun _ => ?_)) | (refine GoB.ne (fun _ => ?_) (fun _ => ?_)) | (refine GoB.split (fun _ => ?_) (fun _ => ?_)) | (simp (disch := omega) only [↓wr, ↓reduceIte, wq, eq_self, ne_eq, implies_true, oneV, intOp, goI, splice, sBuild, fillE, nilB, isNil, Nat.reduceEqDiff, Nat.reduceAdd, Nat.reduceLT, Nat.reduceLeDiff, Int.reduceNeg, Int.reduceToNat, reduceCtorEq, decide_true, decide_false, d32, d43, d42, d54, d53, d52, d65, d64, d63, d62, d76, d75, d74, d73, d72, d32.symm, d43.symm, d42.symm, d54.symm, d53.symm, d52.symm, d65.symm, d64.symm, d63.symm, d62.symm, d76.symm, d75.symm, d74.symm, d73.symm, d72.symm, encI]))
  all_goals first | (exfalso; omega) | skip
  intro n8 hn8
  have d87 := (dead_if hn8 arr_live).1
  have hn8 := (dead_if (dead_if hn8 arr_live).2 arr_live).2
  have d86 := (dead_if hn8 arr_live).1
  have hn8 := (dead_if (dead_if hn8 arr_live).2 arr_live).2
  have d85 := (dead_if hn8 arr_live).1
  have hn8 := (dead_if (dead_if hn8 arr_live).2 arr_live).2
  have d84 := (dead_if hn8 arr_live).1
  have hn8 := (dead_if hn8 arr_live).2
  have d83 := (dead_if hn8 arr_live).1
  have hn8 := (dead_if (dead_if hn8 arr_live).2 arr_live).2
  have d82 := (dead_if hn8 arr_live).1
  simp (disch := omega) only [↓wr, ↓reduceIte, wq, eq_self, ne_eq, implies_true, oneV, intOp, goI, splice, sBuild, fillE, nilB, isNil, Nat.reduceEqDiff, Nat.reduceAdd, Nat.reduceLT, Nat.reduceLeDiff, Int.reduceNeg, Int.reduceToNat, reduceCtorEq, decide_true, decide_false, d32, d43, d42, d54, d53, d52, d65, d64, d63, d62, d76, d75, d74, d73, d72, d32.symm, d43.symm, d42.symm, d54.symm, d53.symm, d52.symm, d65.symm, d64.symm, d63.symm, d62.symm, d76.symm, d75.symm, d74.symm, d73.symm, d72.symm, encI]
  refine CallG.lendAs (fun H => H n2 = .arr 4 [encG g1] ∧ H n3 = .arr 4 [encG r1]) (pc_Ints [1, 2] [1, 2] (by unfold Short; decide)) (by kernel_rfl) (.val _) ⟨Lent.tree (encI_tree [1, 2]), Lent.own (.inr ⟨n8, rfl, by simp only [View.set, if_true]; rfl⟩) (by simp; exact ⟨.val _, .val _⟩), trivial⟩ (by
    simp [View.set, d32, d43, d42, d54, d53, d52, d65, d64, d63, d62, d76, d75, d74, d73, d72, d32.symm, d43.symm, d42.symm, d54.symm, d53.symm, d52.symm, d65.symm, d64.symm, d63.symm, d62.symm, d76.symm, d75.symm, d74.symm, d73.symm, d72.symm, d83.symm, d82.symm, encG, encS]) ?_
  rintro H2 ⟨f2, f3⟩
  simp only [encG, encS] at f2 f3
  simp (disch := omega) only [↓wr, ↓reduceIte, wq, eq_self, ne_eq, implies_true, oneV, intOp, goI, splice, sBuild, fillE, nilB, isNil, Nat.reduceEqDiff, Nat.reduceAdd, Nat.reduceLT, Nat.reduceLeDiff, Int.reduceNeg, Int.reduceToNat, reduceCtorEq, decide_true, decide_false, f2, f3]
  refine GoB.split (fun _ => ?_) (fun e => absurd e (by decide))
  simp (disch := omega) only [↓wr, ↓reduceIte, wq, eq_self, ne_eq, implies_true, oneV, intOp, goI, splice, sBuild, fillE, nilB, isNil, Nat.reduceEqDiff, Nat.reduceAdd, Nat.reduceLT, Nat.reduceLeDiff, Int.reduceNeg, Int.reduceToNat, reduceCtorEq, decide_true, decide_false, f2, f3]
  refine CallG.pure (pn_tNullable g1 k1 s1).pure (by kernel_rfl) ?_
  rw [e1]
  simp (disch := omega) only [↓wr, ↓reduceIte, wq, eq_self, ne_eq, implies_true, oneV, intOp, goI, splice, sBuild, fillE, nilB, isNil, Nat.reduceEqDiff, Nat.reduceAdd, Nat.reduceLT, Nat.reduceLeDiff, Int.reduceNeg, Int.reduceToNat, reduceCtorEq, decide_true, decide_false, f2, f3, encB]
  intro n9 hn9
  try simp (disch := omega) only [↓wr, ↓reduceIte, wq, eq_self, ne_eq, implies_true, oneV, intOp, goI, splice, sBuild, fillE, nilB, isNil, Nat.reduceEqDiff, Nat.reduceAdd, Nat.reduceLT, Nat.reduceLeDiff, Int.reduceNeg, Int.reduceToNat, reduceCtorEq, decide_true, decide_false, f2, f3, encB]
  refine CallG.lendAs (fun H => H n2 = .arr 4 [encG g1] ∧ H n3 = .arr 4 [encG r1]) (pc_Bools [true, false, false] [true, false, false] (by unfold Short; decide)) (by kernel_rfl) (.val _) ⟨Lent.tree (encB_tree [true, false, false]), lent_bools (is := [true, false, false]) (by simp only [View.set, if_true]; rfl) rfl, trivial⟩ (by
    have e2 : n2 ≠ n9 := by rintro rfl; rw [f2] at hn9; simp at hn9
    have e3 : n3 ≠ n9 := by rintro rfl; rw [f3] at hn9; simp at hn9
    simp [View.set, e2, e3, f2, f3, encG, encS]) ?_
  clear hn9 f2 f3 H2
  rintro H2 ⟨f2, f3⟩
  simp only [encG, encS] at f2 f3
  simp (disch := omega) only [↓wr, ↓reduceIte, wq, eq_self, ne_eq, implies_true, oneV, intOp, goI, splice, sBuild, fillE, nilB, isNil, Nat.reduceEqDiff, Nat.reduceAdd, Nat.reduceLT, Nat.reduceLeDiff, Int.reduceNeg, Int.reduceToNat, reduceCtorEq, decide_true, decide_false, f2, f3]
  try (refine GoB.split (fun _ => ?_) (fun e => absurd e (by decide)))
  simp (disch := omega) only [↓wr, ↓reduceIte, wq, eq_self, ne_eq, implies_true, oneV, intOp, goI, splice, sBuild, fillE, nilB, isNil, Nat.reduceEqDiff, Nat.reduceAdd, Nat.reduceLT, Nat.reduceLeDiff, Int.reduceNeg, Int.reduceToNat, reduceCtorEq, decide_true, decide_false, f2, f3]
  refine CallG.pure (pn_tProductive g1 k1 s1).pure (by kernel_rfl) ?_
  rw [e2]
  simp (disch := omega) only [↓wr, ↓reduceIte, wq, eq_self, ne_eq, implies_true, oneV, intOp, goI, splice, sBuild, fillE, nilB, isNil, Nat.reduceEqDiff, Nat.reduceAdd, Nat.reduceLT, Nat.reduceLeDiff, Int.reduceNeg, Int.reduceToNat, reduceCtorEq, decide_true, decide_false, f2, f3, encB]
  intro n10 hn10
  try simp (disch := omega) only [↓wr, ↓reduceIte, wq, eq_self, ne_eq, implies_true, oneV, intOp, goI, splice, sBuild, fillE, nilB, isNil, Nat.reduceEqDiff, Nat.reduceAdd, Nat.reduceLT, Nat.reduceLeDiff, Int.reduceNeg, Int.reduceToNat, reduceCtorEq, decide_true, decide_false, f2, f3, encB]
  refine CallG.lendAs (fun H => H n2 = .arr 4 [encG g1] ∧ H n3 = .arr 4 [encG r1]) (pc_Bools [true, false, true] [true, false, true] (by unfold Short; decide)) (by kernel_rfl) (.val _) ⟨Lent.tree (encB_tree [true, false, true]), lent_bools (is := [true, false, true]) (by simp only [View.set, if_true]; rfl) rfl, trivial⟩ (by
    have e2 : n2 ≠ n10 := by rintro rfl; rw [f2] at hn10; simp at hn10
    have e3 : n3 ≠ n10 := by rintro rfl; rw [f3] at hn10; simp at hn10
    simp [View.set, e2, e3, f2, f3, encG, encS]) ?_
  clear hn10 f2 f3 H2
  rintro H2 ⟨f2, f3⟩
  simp only [encG, encS] at f2 f3
  simp (disch := omega) only [↓wr, ↓reduceIte, wq, eq_self, ne_eq, implies_true, oneV, intOp, goI, splice, sBuild, fillE, nilB, isNil, Nat.reduceEqDiff, Nat.reduceAdd, Nat.reduceLT, Nat.reduceLeDiff, Int.reduceNeg, Int.reduceToNat, reduceCtorEq, decide_true, decide_false, f2, f3]
  try (refine GoB.split (fun _ => ?_) (fun e => absurd e (by decide)))
  simp (disch := omega) only [↓wr, ↓reduceIte, wq, eq_self, ne_eq, implies_true, oneV, intOp, goI, splice, sBuild, fillE, nilB, isNil, Nat.reduceEqDiff, Nat.reduceAdd, Nat.reduceLT, Nat.reduceLeDiff, Int.reduceNeg, Int.reduceToNat, reduceCtorEq, decide_true, decide_false, f2, f3]
  refine CallG.pure (pn_tReachable g1 k1 s1).pure (by kernel_rfl) ?_
  rw [e3]
  simp (disch := omega) only [↓wr, ↓reduceIte, wq, eq_self, ne_eq, implies_true, oneV, intOp, goI, splice, sBuild, fillE, nilB, isNil, Nat.reduceEqDiff, Nat.reduceAdd, Nat.reduceLT, Nat.reduceLeDiff, Int.reduceNeg, Int.reduceToNat, reduceCtorEq, decide_true, decide_false, f2, f3, encB]
  intro n11 hn11
  try simp (disch := omega) only [↓wr, ↓reduceIte, wq, eq_self, ne_eq, implies_true, oneV, intOp, goI, splice, sBuild, fillE, nilB, isNil, Nat.reduceEqDiff, Nat.reduceAdd, Nat.reduceLT, Nat.reduceLeDiff, Int.reduceNeg, Int.reduceToNat, reduceCtorEq, decide_true, decide_false, f2, f3, encB]
  refine CallG.lendAs (fun H => H n2 = .arr 4 [encG g1] ∧ H n3 = .arr 4 [encG r1]) (pc_Bools [true, false, false] [true, false, false] (by unfold Short; decide)) (by kernel_rfl) (.val _) ⟨Lent.tree (encB_tree [true, false, false]), lent_bools (is := [true, false, false]) (by simp only [View.set, if_true]; rfl) rfl, trivial⟩ (by
    have e2 : n2 ≠ n11 := by rintro rfl; rw [f2] at hn11; simp at hn11
    have e3 : n3 ≠ n11 := by rintro rfl; rw [f3] at hn11; simp at hn11
    simp [View.set, e2, e3, f2, f3, encG, encS]) ?_
  clear hn11 f2 f3 H2
  rintro H2 ⟨f2, f3⟩
  simp only [encG, encS] at f2 f3
  simp (disch := omega) only [↓wr, ↓reduceIte, wq, eq_self, ne_eq, implies_true, oneV, intOp, goI, splice, sBuild, fillE, nilB, isNil, Nat.reduceEqDiff, Nat.reduceAdd, Nat.reduceLT, Nat.reduceLeDiff, Int.reduceNeg, Int.reduceToNat, reduceCtorEq, decide_true, decide_false, f2, f3]
  try (refine GoB.split (fun _ => ?_) (fun e => absurd e (by decide)))
  simp (disch := omega) only [↓wr, ↓reduceIte, wq, eq_self, ne_eq, implies_true, oneV, intOp, goI, splice, sBuild, fillE, nilB, isNil, Nat.reduceEqDiff, Nat.reduceAdd, Nat.reduceLT, Nat.reduceLeDiff, Int.reduceNeg, Int.reduceToNat, reduceCtorEq, decide_true, decide_false, f2, f3]
  refine CallG.pure (pc_tIs r1 k2 s2) (by kernel_rfl) ?_
  rw [i1]
  simp (disch := omega) only [↓wr, ↓reduceIte, wq, eq_self, ne_eq, implies_true, oneV, intOp, goI, splice, sBuild, fillE, nilB, isNil, Nat.reduceEqDiff, Nat.reduceAdd, Nat.reduceLT, Nat.reduceLeDiff, Int.reduceNeg, Int.reduceToNat, reduceCtorEq, decide_true, decide_false, f2, f3]
  refine CallG.pure (pc_tIs g1 k1 s1) (by kernel_rfl) ?_
  rw [i2]
  simp (disch := omega) only [↓wr, ↓reduceIte, wq, eq_self, ne_eq, implies_true, oneV, intOp, goI, splice, sBuild, fillE, nilB, isNil, Nat.reduceEqDiff, Nat.reduceAdd, Nat.reduceLT, Nat.reduceLeDiff, Int.reduceNeg, Int.reduceToNat, reduceCtorEq, decide_true, decide_false, f2, f3]

theorem pc_alive : PCall Tryz.prog 12 [] (gb true) :=
  pc_alive_of gram1 gram1r gram2 gram1_ok gram1r_ok gram1_small gram1r_small read1 read2 tRed1 tRed2 tRed3 (by rfl) (by rfl) (by rfl) g1f g1t g1r is2 is1

end Gv

/-
  The law on what the functions tell.
  Conditions: lists that are no longer than an int says, numbers that are ints.
-/
set_option linter.unusedSimpArgs false
set_option maxRecDepth 100000
namespace Gv
open Go Go.Proofs

def S_gerundlaw11_TrimTells : SF := ⟨.seq (.region false [⟨none, [((some 1), .op (.frz (.tmp 0))), ((some 2), .op (.mov (.val (.val (.bool false)))))]⟩]) <|
  .seq (.seq (.region false [⟨none, [((some 3), .call (.val (.fn 12 [] [])) []), ((some 4), .op (.not (.tmp 3)))]⟩]) <|
  .cond (.tmp 4) (.seq (.region false [⟨none, [((some 2), .op (.mov (.val (.val (.bool false)))))]⟩]) <|
  .ret) (.skip)) <|
  .seq (.seq (.region false [⟨none, [((some 5), .op (.load (some 4) (.tmp 1))), ((some 6), .call (.val (.fn 13 [] [])) [(.tmp 5)])]⟩]) <|
  .cond (.tmp 6) (.seq (.region false [⟨none, [((some 2), .op (.mov (.val (.val (.bool true)))))]⟩]) <|
  .ret) (.skip)) <|
  .seq (.region true [⟨none, [((some 7), .op (.load (some 4) (.tmp 1))), ((some 8), .call (.val (.fn 15 [] [])) [(.tmp 7)]), ((some 9), .op (.load (some 4) (.tmp 1))), ((some 10), .call (.val (.fn 16 [] [])) [(.tmp 9)]), ((some 11), .call (.val (.fn 14 [] [])) [(.tmp 8), (.tmp 10)]), ((some 12), .op (.mov (.tmp 11)))]⟩, ⟨(some (12, true)), [((some 13), .op (.load (some 4) (.tmp 1))), ((some 14), .call (.val (.fn 17 [] [])) [(.tmp 13)]), ((some 15), .op (.load (some 4) (.tmp 1))), ((some 16), .call (.val (.fn 18 [] [])) [(.tmp 15)]), ((some 17), .call (.val (.fn 14 [] [])) [(.tmp 14), (.tmp 16)])]⟩, ⟨none, [((some 18), .op (.pick (.tmp 12) (.tmp 17) (.val (.val (.bool false))))), ((some 19), .op (.mov (.tmp 18)))]⟩, ⟨(some (19, true)), [((some 20), .op (.load (some 4) (.tmp 1))), ((some 21), .call (.val (.fn 19 [] [])) [(.tmp 20)]), ((some 22), .op (.load (some 4) (.tmp 1))), ((some 23), .call (.val (.fn 20 [] [])) [(.tmp 22)]), ((some 24), .call (.val (.fn 14 [] [])) [(.tmp 21), (.tmp 23)])]⟩, ⟨none, [((some 25), .op (.pick (.tmp 19) (.tmp 24) (.val (.val (.bool false))))), ((some 26), .op (.mov (.tmp 25)))]⟩, ⟨(some (26, true)), [((some 27), .op (.load (some 4) (.tmp 1))), ((some 28), .call (.val (.fn 21 [] [])) [(.tmp 27)]), ((some 29), .op (.load (some 4) (.tmp 1))), ((some 30), .call (.val (.fn 22 [] [])) [(.tmp 29)]), ((some 31), .op (.beq true (.tmp 28) (.tmp 30)))]⟩, ⟨none, [((some 32), .op (.pick (.tmp 26) (.tmp 31) (.val (.val (.bool false))))), ((some 2), .op (.mov (.tmp 32)))]⟩]) <|
  .ret,
  [.tmp 2], 33⟩
theorem S_gerundlaw11_TrimTells_ok : compF Tryz.prog 3 [1] = some S_gerundlaw11_TrimTells := by kernel_rfl


theorem great_small {g : Gram} (e : greatG g = false) : g.Small := by
  simp only [greatG, Bool.or_eq_false_iff, decide_eq_false_iff_not] at e
  exact ⟨by omega⟩
theorem short_grown {g : Gram} (hg : g.Ok) (t : Bool) : Short (grown09 g t) := by
  by_cases h : right09 g = true
  · have := hg.nons; unfold Short at this ⊢; rw [grown09_len h]; exact this
  · unfold Short; rw [grown09, if_neg h]; decide
theorem short_reach {g : Gram} (hg : g.Ok) : Short (reach09 g) := by
  by_cases h : right09 g = true
  · have := hg.nons; unfold Short at this ⊢; rw [reach09_len h]; exact this
  · unfold Short; rw [reach09, if_neg h]; decide
theorem pc_great (g : Gram) : PCall Tryz.prog 13 [.agg (encG g)] (gb (greatG g)) := PCall.val (gg_tree g) fun H => (mc_Great g H).mono fun _ _ h => h.1

set_option maxHeartbeats 2000000 in
theorem pc_TrimTells (g : Gram) (hg : g.Ok) : PCall Tryz.prog 3 [.agg (encG g)] (gb true) := by
  refine PCall.val (gg_tree g) fun H => ?_
  refine MCall.of mixed S_gerundlaw11_TrimTells_ok ?_
  simp (disch := omega) only [↓wr, ↓reduceIte, wq, eq_self, ne_eq, implies_true, oneV, intOp, goI, splice, sBuild, fillE, nilB, isNil, Nat.reduceEqDiff, Nat.reduceAdd, Nat.reduceLT, Nat.reduceLeDiff, Int.reduceNeg, Int.reduceToNat, reduceCtorEq, decide_true, decide_false, S_gerundlaw11_TrimTells, encG, encS]
  refine CallG.pure pc_alive (by kernel_rfl) ?_
  simp (disch := omega) only [↓wr, ↓reduceIte, wq, eq_self, ne_eq, implies_true, oneV, intOp, goI, splice, sBuild, fillE, nilB, isNil, Nat.reduceEqDiff, Nat.reduceAdd, Nat.reduceLT, Nat.reduceLeDiff, Int.reduceNeg, Int.reduceToNat, reduceCtorEq, decide_true, decide_false, encG, encS]
  refine CallG.pure (pc_great g) (by kernel_rfl) ?_
  simp (disch := omega) only [↓wr, ↓reduceIte, wq, eq_self, ne_eq, implies_true, oneV, intOp, goI, splice, sBuild, fillE, nilB, isNil, Nat.reduceEqDiff, Nat.reduceAdd, Nat.reduceLT, Nat.reduceLeDiff, Int.reduceNeg, Int.reduceToNat, reduceCtorEq, decide_true, decide_false]
  refine GoB.split (fun e => ?_) (fun e => ?_)
  · simp (disch := omega) only [↓wr, ↓reduceIte, wq, eq_self, ne_eq, implies_true, oneV, intOp, goI, splice, sBuild, fillE, nilB, isNil, Nat.reduceEqDiff, Nat.reduceAdd, Nat.reduceLT, Nat.reduceLeDiff, Int.reduceNeg, Int.reduceToNat, reduceCtorEq, decide_true, decide_false]
  · have hs : g.Small := great_small e
    simp (disch := omega) only [↓wr, ↓reduceIte, wq, eq_self, ne_eq, implies_true, oneV, intOp, goI, splice, sBuild, fillE, nilB, isNil, Nat.reduceEqDiff, Nat.reduceAdd, Nat.reduceLT, Nat.reduceLeDiff, Int.reduceNeg, Int.reduceToNat, reduceCtorEq, decide_true, decide_false, encG, encS]
    repeat' (first | (refine GoB.dec (fun _ => ?_) (fun _ => ?_)) | (refine GoB.eq (fun _ => ?_) (fun _ => ?_)) | (refine GoB.ne (fun _ => ?_) (fun _ => ?_)) | (refine GoB.split (fun _ => ?_) (fun _ => ?_)) | (refine CallG.pure (pn_tNullable g hg hs).pure (by kernel_rfl) ?_) | (refine CallG.pure (pc_Nullable11 g hg) (by kernel_rfl) ?_) | (refine CallG.pure (pn_tProductive g hg hs).pure (by kernel_rfl) ?_) | (refine CallG.pure (pc_Productive11 g hg) (by kernel_rfl) ?_) | (refine CallG.pure (pn_tReachable g hg hs).pure (by kernel_rfl) ?_) | (refine CallG.pure (pn_Reachable11 g hg).pure (by kernel_rfl) ?_) | (refine CallG.pure (pc_tIs g hg hs) (by kernel_rfl) ?_) | (refine CallG.pure (pc_gIs g hg) (by kernel_rfl) ?_) | (refine CallG.pure (pc_Bools _ _ (short_grown hg false)) (by kernel_rfl) ?_) | (refine CallG.pure (pc_Bools _ _ (short_grown hg true)) (by kernel_rfl) ?_) | (refine CallG.pure (pc_Bools _ _ (short_reach hg)) (by kernel_rfl) ?_) | (simp (disch := omega) only [↓wr, ↓reduceIte, wq, eq_self, ne_eq, implies_true, oneV, intOp, goI, splice, sBuild, fillE, nilB, isNil, Nat.reduceEqDiff, Nat.reduceAdd, Nat.reduceLT, Nat.reduceLeDiff, Int.reduceNeg, Int.reduceToNat, reduceCtorEq, decide_true, decide_false, encG, encS]))
    all_goals simp_all
end Gv

/-
  What reads as data is a tree of the machine's.
  Conditions: none beyond those that each lemma names.
-/
set_option linter.unusedSimpArgs false
namespace Gv
open Go

/-- The cells are as these values, wherever old blocks are known. -/
def CRel (hp : Array Obj) (cs : List Value) (vs : List V) : Prop :=
  vs.length = cs.length ∧ ∀ μ i, i < vs.length → VRel (fun b => b < hp.size) μ hp (vs.getD i .any) (cs.getD i undef)

/-- All weights are within what a machine reaches. -/
def Wt {H : Type} (P : Program) (t : TypeId) (d : DataW H) : Prop := ∀ n ∈ d.weights P t, n ≤ reachBytes

/-- What reads as data of this type is one of these. -/
def Rdr (P : Program) (t : TypeId) {α : Type} (f : α → List V) (ok : α → Prop) : Prop :=
  ∀ {H : Type} (enc : TypeId × Value → H) (w : World) (base : Nat) (sp : Nat → Bool) (held : Bool) (fuel : Nat) (cs : List Value) (x : DataW H × List MemPlace),
    DataW.trod enc P w base sp held fuel t cs = some x → Wt P t x.1 → ∃ a, ok a ∧ CRel w.heap cs (f a)

theorem crel_one {hp : Array Obj} {c : Value} {v : V} (h : ∀ μ, VRel (fun b => b < hp.size) μ hp v c) : CRel hp [c] [v] := by
  refine ⟨rfl, fun μ i hi => ?_⟩
  match i, hi with
  | 0, _ => exact h μ

theorem rd_int {P : Program} {t : TypeId} {k : IntKind} (ht : P.underlying t = some (.int k)) : Rdr P t (fun n => [.val (.int k n)]) (fun n => (Lit.int k n).wf = true) := by
  intro H enc w base sp held fuel cs x h _
  obtain ⟨n, rfl, _, hw⟩ := DataW.trod_int ht h
  exact ⟨n, hw, crel_one fun μ => .val _ rfl⟩

theorem rd_string {P : Program} {t : TypeId} (ht : P.underlying t = some .string) : Rdr P t (fun s => [.val (.string s)]) (fun _ => True) := by
  intro H enc w base sp held fuel cs x h _
  obtain ⟨s, rfl, _, _⟩ := DataW.trod_string ht h
  exact ⟨s, trivial, crel_one fun μ => .val _ rfl⟩

theorem cells_at {w : World} {base : Nat} {a : Addr} {n : Nat} {cs : List Value} (h : w.cells? base a n = some cs) : cs.length = n ∧ ∀ i, i < n → w.cell? (a.add i) = some (cs.getD i undef) := by
  obtain ⟨_, h2, h3⟩ := World.cells?_some h
  refine ⟨h2, fun i hi => ?_⟩
  rw [h3 i hi, List.getD_eq_getElem?_getD, List.getElem?_eq_getElem (by omega)]
  rfl

theorem cell_none {w : World} {a : Addr} {v : Value} (h : w.cell? a = some v) : a.spot = none ∧ a.block < w.heap.size := by
  unfold World.cell? at h
  split at h
  · rename_i c _ _ hb
    split at h
    · simp at h
    · rename_i hs
      exact ⟨by simpa using hs, (Array.getElem?_eq_some_iff.1 hb).1⟩
  · simp at h

theorem wt_all {H : Type} {P : Program} {e : TypeId} : ∀ {l : List (DataW H)}, (∀ n ∈ DataW.weightsAll P e l, n ≤ reachBytes) → ∀ d ∈ l, Wt P e d
  | [], _, d, hd => by simp at hd
  | x :: l, h, d, hd => by
    simp only [DataW.weightsAll, List.mem_append] at h
    rcases List.mem_cons.1 hd with rfl | hd
    · exact fun n hn => h n (.inl hn)
    · exact wt_all (fun n hn => h n (.inr hn)) d hd

theorem wt_slice {H : Type} {P : Program} {t e : TypeId} {elems spare : List (DataW H)} (ht : P.underlying t = some (.slice e)) (h : Wt P t (.slice elems spare)) :
    (elems.length + spare.length) * P.bytesOf e ≤ reachBytes ∧ ∀ d ∈ elems, Wt P e d := by
  unfold Wt at h
  unfold DataW.weights at h
  rw [ht] at h
  simp only [List.mem_cons, List.mem_append] at h
  exact ⟨h _ (.inl rfl), wt_all fun n hn => h n (.inr (.inl hn))⟩

theorem wt_struct {H : Type} {P : Program} {t : TypeId} {fs : Array Field} {parts : List (DataW H)} (ht : P.underlying t = some (.struct fs)) (h : Wt P t (.agg parts)) {j : Nat} {f : Field} {d : DataW H} (hf : fs[j]? = some f) (hd : parts[j]? = some d) : Wt P f.type d := by
  intro n hn
  refine h n ?_
  unfold DataW.weights
  rw [ht]
  exact DataW.weights_mem_each (j := j) (t := f.type) (by simp [hf]) hd n hn

/-- A list of choices. -/
theorem choices {α : Type} {φ : Nat → α → Prop} : ∀ (n : Nat), (∀ i, i < n → ∃ a, φ i a) → ∃ l : List α, l.length = n ∧ ∀ i (hi : i < l.length), φ i l[i]
  | 0, _ => ⟨[], rfl, fun i hi => by simp at hi⟩
  | n + 1, h => by
    obtain ⟨l, hl, hφ⟩ := choices n fun i hi => h i (by omega)
    obtain ⟨a, ha⟩ := h n (by omega)
    refine ⟨l ++ [a], by simp [hl], fun i hi => ?_⟩
    by_cases e : i < l.length
    · rw [List.getElem_append_left e]; exact hφ i e
    · have : i = n := by simp at hi; omega
      subst this
      rw [List.getElem_append_right (by omega)]
      simp only [hl, Nat.sub_self, List.getElem_cons_zero]; exact ha

theorem rd_slice {P : Program} {t e : TypeId} {α : Type} {f : α → List V} {ok : α → Prop} (ht : P.underlying t = some (.slice e)) (hc : 0 < P.cellsOf e) (hb : 0 < P.bytesOf e) (he : Rdr P e f ok) :
    Rdr P t (fun l : List α => [.fro (l.map f)]) (fun l => l.length < 4611686018427387904 ∧ ∀ a ∈ l, ok a) := by
  intro H enc w base sp held fuel cs x h hw
  rcases DataW.trod_slice ht h with ⟨rfl, rfl⟩ | ⟨a, len, cap, elems, rest, n, _, rfl, rfl, hba, hl, hm, hlen, hel, _, _⟩
  · exact ⟨[], ⟨by simp, by simp⟩, crel_one fun μ => .fro0 none 0 (by simp)⟩
  obtain ⟨hw1, hw2⟩ := wt_slice ht hw
  simp only [List.length_map] at hw1
  have hlt : len < 4611686018427387904 := by
    have h1 : len * 1 ≤ (elems.length + rest.length) * P.bytesOf e := Nat.mul_le_mul (by omega) hb
    unfold reachBytes at hw1
    omega
  have each : ∀ i, i < len → ∃ y, ok y ∧ ∃ ci, w.cells? base (a.add (i * P.cellsOf e)) (P.cellsOf e) = some ci ∧ CRel w.heap ci (f y) := by
    intro i hi
    have h1 := hel i hi
    have h2 : elems[i]? = some (elems[i]'(by omega)) := List.getElem?_eq_getElem (by omega)
    have hmem : elems[i]'(by omega) ∈ elems := List.getElem_mem _
    rw [h2, Option.bind_eq_some_iff] at h1
    obtain ⟨ci, h3, h4⟩ := h1
    obtain ⟨y, h5, h6⟩ := he enc w base sp held n ci _ h4 (hw2 _ (List.mem_map.2 ⟨_, hmem, rfl⟩))
    exact ⟨y, h5, ci, h3, h6⟩
  obtain ⟨l, hll, hφ⟩ := choices len each
  subst hll
  refine ⟨l, ⟨hlt, fun y hy => ?_⟩, crel_one fun μ => ?_⟩
  · obtain ⟨i, hi, rfl⟩ := List.getElem_of_mem hy
    exact (hφ i hi).1
  by_cases h0 : l = []
  · subst h0
    exact .fro0 (some a) cap (by simp)
  have hpos : 0 < l.length := List.length_pos_iff.2 h0
  have hcell : ∀ i j, i < l.length → j < P.cellsOf e → ∃ c, cellAt w.heap a.block (a.off + i * P.cellsOf e + j) = some c ∧ a.block < w.heap.size ∧ (i = 0 → j = 0 → a.spot = none) ∧ ∀ (hi : i < l.length), VRel (fun b => b < w.heap.size) μ w.heap ((f l[i]).getD j .any) c := by
    intro i j hi hj
    obtain ⟨_, ci, h1, h2⟩ := hφ i hi
    obtain ⟨h3, h4⟩ := cells_at h1
    have h5 := h4 j hj
    have h6 := cell_none h5
    have hbk : ((a.add (i * P.cellsOf e)).add j).block = a.block := by simp only [Addr.add]; split <;> split <;> rfl
    have hof : ((a.add (i * P.cellsOf e)).add j).off = a.off + i * P.cellsOf e + j := by
      simp only [Addr.add]; split <;> split <;> simp_all
    refine ⟨ci.getD j undef, ?_, by rw [← hbk]; exact h6.2, ?_, fun _ => ?_⟩
    · rw [← hof, ← hbk, ← cell_eq]
      rw [← h5]
      congr 1
      generalize (a.add (i * P.cellsOf e)).add j = b at h6
      cases b
      simp at h6 ⊢
      exact h6.1.symm
    · rintro rfl rfl
      simp [Addr.add] at h6
      exact h6.1
    · exact h2.2 μ j (by rw [h2.1, h3]; exact hj)
  obtain ⟨_, _, hz, hs, _⟩ := hcell 0 0 hpos hc
  have ha : a = ⟨a.block, a.off, none⟩ := by
    cases a; simp at hs ⊢; exact hs
  have hlf : ∀ i, i < l.length → (f (l[i]?.getD (l[0]'hpos))).length = P.cellsOf e := fun i hi => by
    obtain ⟨_, ci, h1, h2⟩ := hφ i hi
    rw [List.getElem?_eq_getElem hi, Option.getD_some, h2.1, (cells_at h1).1]
  have hgd : ∀ i (hi : i < l.length), (l.map f).getD i [] = f l[i] := fun i hi => by simp [List.getD_eq_getElem?_getD, hi]
  have hcl : (l.map f).length = l.length := by simp
  have := VRel.fro (Z := fun b => b < w.heap.size) (μ := μ) (hp := w.heap) (l.map f) a.block a.off (P.cellsOf e) cap (fun i j => (cellAt w.heap a.block (a.off + i * P.cellsOf e + j)).getD undef) hz (by rw [hcl]; exact hl)
    (fun i hi => by
      rw [hcl] at hi
      have := hlf i hi
      rw [List.getElem?_eq_getElem hi, Option.getD_some] at this
      rw [hgd i hi]; exact this)
    (fun i j hi hj => by
      rw [hcl] at hi
      obtain ⟨c, h1, _⟩ := hcell i j hi hj
      rw [h1]; rfl)
    (fun i j hi hj => by
      rw [hcl] at hi
      obtain ⟨c, h1, _, _, h2⟩ := hcell i j hi hj
      rw [h1, hgd i hi]; exact h2 hi)
  rw [hcl, ← ha] at this
  exact this

/-- A struct whose fields are a cell each. -/
theorem rd_fields {P : Program} {t : TypeId} {fs : Array Field} (ht : P.underlying t = some (.struct fs)) (hf : ∀ (i : Nat) (f : Field), fs[i]? = some f → f.offset = i ∧ P.cellsOf f.type = 1) (hn : P.cellsOf t = fs.size)
    {H : Type} {enc : TypeId × Value → H} {w : World} {base : Nat} {sp : Nat → Bool} {held : Bool} {fuel : Nat} {cs : List Value} {x : DataW H × List MemPlace} (h : DataW.trod enc P w base sp held fuel t cs = some x) (hw : Wt P t x.1) :
    cs.length = fs.size ∧ ∀ (i : Nat) (f : Field), fs[i]? = some f → ∀ {α : Type} {g : α → List V} {ok : α → Prop}, Rdr P f.type g ok → ∃ a, ok a ∧ CRel w.heap [cs.getD i undef] (g a) := by
  obtain ⟨xs, n, rfl, rfl, hl, hlen, hx⟩ := DataW.trod_struct ht h
  refine ⟨by rw [hl, hn], fun i f hi α g ok hr => ?_⟩
  obtain ⟨h1, h2⟩ := hf i f hi
  have hi2 : i < fs.size := (Array.getElem?_eq_some_iff.1 hi).1
  have h3 := hx i f hi
  have h4 : xs[i]? = some (xs[i]'(by omega)) := List.getElem?_eq_getElem (by omega)
  rw [h4, h1, h2] at h3
  have h5 : (cs.drop i).take 1 = [cs.getD i undef] := by
    rw [List.getD_eq_getElem?_getD, List.getElem?_eq_getElem (by omega), List.drop_eq_getElem_cons (by omega)]
    rfl
  rw [h5] at h3
  exact hr enc w base sp held n _ _ h3 (wt_struct ht hw hi (by simp [h4]))

theorem crel_cons {hp : Array Obj} {c : Value} {cs : List Value} {v : V} {vs : List V} (h : CRel hp [c] [v]) (k : CRel hp cs vs) : CRel hp (c :: cs) (v :: vs) := by
  refine ⟨by simp [k.1], fun μ i hi => ?_⟩
  cases i with
  | zero => exact h.2 μ 0 (by simp)
  | succ i => exact k.2 μ i (by simpa using hi)
theorem crel_nil {hp : Array Obj} : CRel hp [] [] := ⟨rfl, fun μ i hi => by simp at hi⟩

end Gv

/-
  Grammars that read as data are grammars of the machine's.
  Conditions: none.
-/
set_option linter.unusedSimpArgs false
set_option maxRecDepth 100000
namespace Gv
open Go Go.Proofs

theorem wf_in64 {n : Int} (h : (Lit.int .i64 n).wf = true) : In64 n := by
  simp only [Lit.wf, Bool.and_eq_true, decide_eq_true_eq] at h
  exact h

theorem rd_goint : Rdr Tryz.prog 3 (fun n => [gi n]) In64 := fun enc w base sp held fuel cs x h hw => by
  obtain ⟨n, h1, h2⟩ := rd_int Tryz.underlying3 enc w base sp held fuel cs x h hw
  exact ⟨n, wf_in64 h1, h2⟩

theorem rd_ints : Rdr Tryz.prog 33 (fun l : List Int => [encI l]) (fun l => Short l ∧ ∀ x ∈ l, In64 x) :=
  rd_slice Tryz.underlying33 (of_decide_eq_true (by kernel_rfl)) (of_decide_eq_true (by kernel_rfl)) rd_goint

theorem rd_strings : Rdr Tryz.prog 23 (fun l : List ByteArray => [encS l]) (fun l => Short l ∧ ∀ x ∈ l, True) :=
  rd_slice Tryz.underlying23 (of_decide_eq_true (by kernel_rfl)) (of_decide_eq_true (by kernel_rfl)) (rd_string Tryz.underlying9)

theorem cs3 {cs : List Value} (h : cs.length = 3) : cs = [cs.getD 0 undef, cs.getD 1 undef, cs.getD 2 undef] := by
  match cs, h with
  | [a, b, c], _ => rfl
theorem cs4 {cs : List Value} (h : cs.length = 4) : cs = [cs.getD 0 undef, cs.getD 1 undef, cs.getD 2 undef, cs.getD 3 undef] := by
  match cs, h with
  | [a, b, c, d], _ => rfl

theorem rd_term : Rdr Tryz.prog 63 encT (fun t => In64 t.level ∧ In64 t.assoc) := fun enc w base sp held fuel cs x h hw => by
  obtain ⟨hl, hf⟩ := rd_fields Tryz.underlying63 (by
    intro i f hi
    match i, hi with
    | 0, hi => simp at hi; subst hi; exact ⟨rfl, by kernel_rfl⟩
    | 1, hi => simp at hi; subst hi; exact ⟨rfl, by kernel_rfl⟩
    | 2, hi => simp at hi; subst hi; exact ⟨rfl, by kernel_rfl⟩
    | n + 3, hi => simp at hi) (by kernel_rfl) h hw
  obtain ⟨a, _, h1⟩ := hf 0 _ rfl (rd_string Tryz.underlying9)
  obtain ⟨b, h2, h3⟩ := hf 1 _ rfl rd_goint
  obtain ⟨c, h4, h5⟩ := hf 2 _ rfl rd_goint
  refine ⟨⟨a, b, c⟩, ⟨h2, h4⟩, ?_⟩
  rw [cs3 hl]
  exact crel_cons h1 (crel_cons h3 (crel_cons h5 crel_nil))

theorem rd_rule : Rdr Tryz.prog 40 encR (fun r => In64 r.left ∧ In64 r.prec ∧ Short r.right ∧ ∀ x ∈ r.right, In64 x) := fun enc w base sp held fuel cs x h hw => by
  obtain ⟨hl, hf⟩ := rd_fields Tryz.underlying40 (by
    intro i f hi
    match i, hi with
    | 0, hi => simp at hi; subst hi; exact ⟨rfl, by kernel_rfl⟩
    | 1, hi => simp at hi; subst hi; exact ⟨rfl, by kernel_rfl⟩
    | 2, hi => simp at hi; subst hi; exact ⟨rfl, by kernel_rfl⟩
    | n + 3, hi => simp at hi) (by kernel_rfl) h hw
  obtain ⟨a, h0, h1⟩ := hf 0 _ rfl rd_goint
  obtain ⟨b, h2, h3⟩ := hf 1 _ rfl rd_ints
  obtain ⟨c, h4, h5⟩ := hf 2 _ rfl rd_goint
  refine ⟨⟨a, b, c⟩, ⟨h0, h4, h2.1, h2.2⟩, ?_⟩
  rw [cs3 hl]
  exact crel_cons h1 (crel_cons h3 (crel_cons h5 crel_nil))

theorem rd_gram : Rdr Tryz.prog 26 encG Gram.Ok := fun enc w base sp held fuel cs x h hw => by
  obtain ⟨hl, hf⟩ := rd_fields Tryz.underlying26 (by
    intro i f hi
    match i, hi with
    | 0, hi => simp at hi; subst hi; exact ⟨rfl, by kernel_rfl⟩
    | 1, hi => simp at hi; subst hi; exact ⟨rfl, by kernel_rfl⟩
    | 2, hi => simp at hi; subst hi; exact ⟨rfl, by kernel_rfl⟩
    | 3, hi => simp at hi; subst hi; exact ⟨rfl, by kernel_rfl⟩
    | n + 4, hi => simp at hi) (by kernel_rfl) h hw
  obtain ⟨a, h0, h1⟩ := hf 0 _ rfl (rd_slice Tryz.underlying22 (of_decide_eq_true (by kernel_rfl)) (of_decide_eq_true (by kernel_rfl)) rd_term)
  obtain ⟨b, h2, h3⟩ := hf 1 _ rfl rd_strings
  obtain ⟨c, h4, h5⟩ := hf 2 _ rfl (rd_slice Tryz.underlying24 (of_decide_eq_true (by kernel_rfl)) (of_decide_eq_true (by kernel_rfl)) rd_rule)
  obtain ⟨d, h6, h7⟩ := hf 3 _ rfl rd_goint
  refine ⟨⟨a, b, c, d⟩, ⟨h0.1, h2.1, h4.1, h6, h0.2, h4.2⟩, ?_⟩
  rw [cs4 hl]
  exact crel_cons h1 (crel_cons h3 (crel_cons h5 (crel_cons h7 crel_nil)))

end Gv

/-
  A copy of a grammar.
  Conditions: lists that are no longer than a few dozen.
-/
set_option linter.unusedSimpArgs false
set_option maxRecDepth 100000
namespace Gv
open Go Go.Proofs

def S_gerundref03_Copy : SF := ⟨.seq (.region false [⟨none, [((some 2), .op (.mov (.val (.emp 1))))]⟩]) <|
  .seq (.region false [⟨none, [((some 3), .op (.mov (.val (.emp 2)))), ((some 4), .op (.mov (.tmp 0))), ((some 5), .op (.app 1 8 (.tmp 3) (.tmp 4))), ((some 2), .op (.mov (.tmp 5)))]⟩]) <|
  .ret,
  [.tmp 2], 6⟩
theorem S_gerundref03_Copy_ok : compF Tryz.prog 51 [] = some S_gerundref03_Copy := by kernel_rfl

def B_gerundref09_Copy_0 : SC :=
  .seq (.seq (.region false [⟨none, [((some 16), .op (.mov (.tmp 4))), ((some 17), .op (.addr 2 (.tmp 1))), ((some 18), .op (.load none (.tmp 17))), ((some 19), .op (.len (.tmp 18))), ((some 20), .op (.arith .lss (.tmp 16) (.tmp 19)))]⟩]) <|
  .cond (.tmp 20) (.skip) (.exit 0)) <|
  .seq (.block 1 (.seq (.region false [⟨none, [((some 23), .op (.addr 2 (.tmp 1))), ((some 24), .op (.load none (.tmp 23))), ((some 25), .op (.mov (.tmp 4))), ((some 26), .op (.idx 3 (.tmp 24) (.tmp 25))), ((some 27), .op (.load (some 3) (.tmp 26))), ((some 5), .op (.alloc [(.val (.int .i64 0)), (.emp 1), (.val (.int .i64 0))])), (none, .op (.store 3 (.tmp 5) (.tmp 27)))]⟩]) <|
  .seq (.region false [⟨none, [((some 28), .op (.addr 1 (.tmp 5))), ((some 29), .op (.load none (.tmp 28))), ((some 30), .call (.val (.fn 51 [] [])) [(.tmp 29)]), ((some 31), .op (.addr 1 (.tmp 5))), (none, .op (.store 1 (.tmp 31) (.tmp 30)))]⟩]) <|
  .region false [⟨none, [((some 32), .op (.mov (.tmp 3))), ((some 33), .op (.load (some 3) (.tmp 5))), ((some 34), .op (.bslice 1 3 [(.val (.int .i64 0)), (.emp 1), (.val (.int .i64 0))] [(0, (.tmp 33))])), ((some 35), .op (.app 3 40 (.tmp 32) (.tmp 34))), ((some 3), .op (.mov (.tmp 35)))]⟩])) <|
  .region false [⟨none, [((some 21), .op (.mov (.tmp 4))), ((some 22), .op (.arith .add (.tmp 21) (.val (.val (.int .i64 1))))), ((some 4), .op (.mov (.tmp 22)))]⟩]
def S_gerundref09_Copy : SF := ⟨.seq (.region false [⟨none, [((some 1), .op (.box (.tmp 0))), ((some 2), .op (.alloc [(.emp 1), (.emp 1), (.emp 1), (.val (.int .i64 0))]))]⟩]) <|
  .seq (.region false [⟨none, [((some 6), .op (.mov (.val (.emp 2)))), ((some 7), .op (.addr 0 (.tmp 1))), ((some 8), .op (.load none (.tmp 7))), ((some 9), .op (.app 3 32 (.tmp 6) (.tmp 8))), ((some 10), .op (.addr 0 (.tmp 1))), (none, .op (.store 1 (.tmp 10) (.tmp 9)))]⟩]) <|
  .seq (.region false [⟨none, [((some 11), .op (.mov (.val (.emp 2)))), ((some 12), .op (.addr 1 (.tmp 1))), ((some 13), .op (.load none (.tmp 12))), ((some 14), .op (.app 1 16 (.tmp 11) (.tmp 13))), ((some 15), .op (.addr 1 (.tmp 1))), (none, .op (.store 1 (.tmp 15) (.tmp 14)))]⟩]) <|
  .seq (.region false [⟨none, [((some 3), .op (.mov (.val (.emp 1))))]⟩]) <|
  .seq (.seq (.region false [⟨none, [((some 4), .op (.mov (.val (.val (.int .i64 0)))))]⟩]) <|
  .block 0 (.loop B_gerundref09_Copy_0)) <|
  .seq (.region false [⟨none, [((some 36), .op (.mov (.tmp 3))), ((some 37), .op (.addr 2 (.tmp 1))), (none, .op (.store 1 (.tmp 37) (.tmp 36)))]⟩]) <|
  .seq (.region false [⟨none, [((some 38), .op (.load (some 4) (.tmp 1))), (none, .op (.store 4 (.tmp 2) (.tmp 38)))]⟩]) <|
  .ret,
  [.cell 2 (some 4)], 39⟩
theorem S_gerundref09_Copy_ok : compF Tryz.prog 23 [] = some S_gerundref09_Copy := by kernel_rfl


theorem mo_Copy03 (l : List Int) (hl : l.length ≤ 100000) (H : View) : MCall Tryz.prog 51 [encI l] H fun r H' => OwnA H' r 1 (intsE l) ∧ Fresh H H' r := by
  refine MCall.of mixed S_gerundref03_Copy_ok ?_
  simp (disch := omega) only [↓wr, ↓reduceIte, wq, eq_self, ne_eq, implies_true, oneV, intOp, goI, splice, sBuild, fillE, nilB, isNil, Nat.reduceEqDiff, Nat.reduceAdd, Nat.reduceLT, Nat.reduceLeDiff, Int.reduceNeg, Int.reduceToNat, reduceCtorEq, decide_true, decide_false, S_gerundref03_Copy, encI]
  refine goApp_all (H := H) .nil (by simp [cellOk]) (by unfold limit; simp; omega) (by unfold limit; simp; omega) ?_
  intro u' H' ho hl'
  simp (disch := omega) only [↓wr, ↓reduceIte, wq, eq_self, ne_eq, implies_true, oneV, intOp, goI, splice, sBuild, fillE, nilB, isNil, Nat.reduceEqDiff, Nat.reduceAdd, Nat.reduceLT, Nat.reduceLeDiff, Int.reduceNeg, Int.reduceToNat, reduceCtorEq, decide_true, decide_false]
  exact ⟨ho, fun id hid => hl' id hid (by simp [owner])⟩

/-- What is no great grammar. -/
structure Gram.Slim (g : Gram) : Prop where
  terms : g.terms.length ≤ 40
  nons : g.nons.length ≤ 40
  rules : g.rules.length ≤ 60
  right : ∀ r ∈ g.rules, r.right.length ≤ 20
theorem great_slim {g : Gram} (e : greatG g = false) : g.Slim := by
  simp only [greatG, Bool.or_eq_false_iff, decide_eq_false_iff_not, List.any_eq_false, decide_eq_true_eq] at e
  exact ⟨by omega, by omega, by omega, fun r hr => by have := e.2 r hr; omega⟩

/-- What holds between two rules. -/
def CopI (g : Gram) (b1 b2 : Nat) (u0 u1 : V) (i : Nat) (T : Env) (H : View) : Prop :=
  (∃ (u2 : V) (bs : Built), T 3 = u2 ∧ bs.map (·.2) = g.rules.take i ∧
    Owns H ((u2, 3, builtE bs) :: (.sl b1 0 1 4, 4, [[u0, u1, .fro (g.rules.map encR), gi g.start]]) :: (u0, 3, g.terms.map encT) :: (u1, 1, strsE g.nons) :: (.sl b2 0 1 4, 4, [[.emp 1, .emp 1, .emp 1, gi 0]]) :: builtL bs)) ∧
  T 1 = .ptr b1 0 0 ∧ T 2 = .ptr b2 0 0 ∧ T 4 = gi i

theorem frn_gram {h : Heap} {u0 u1 u2 : V} {g : Gram} {b : Built} (h0 : OwnA h.view u0 3 (g.terms.map encT)) (h1 : OwnA h.view u1 1 (strsE g.nons)) (h2 : OwnA h.view u2 3 (builtE b)) (hb : ∀ y ∈ builtL b, OwnA h.view y.1 y.2.1 y.2.2)
    (hr : b.map (·.2) = g.rules) : FrN h (.agg [u0, u1, u2, gi g.start]) (.agg (encG g)) := by
  refine .agg _ _ rfl fun j hj => ?_
  match j, hj with
  | 0, _ => exact frn_terms h0
  | 1, _ => exact frn_strs h1
  | 2, _ => have := frn_rules h2 hb; rw [hr] at this; exact this
  | 3, _ => exact .val _
  | n + 4, hj => exact absurd hj (by simp only [List.length_cons, List.length_nil]; omega)

set_option maxHeartbeats 4000000 in
theorem pn_Copy09 (g : Gram) (hs : g.Slim) : PNew Tryz.prog 23 [.agg (encG g)] (.agg (encG g)) := by
  refine PNew.of (gg_tree g) ?_
  refine MCall.of mixed S_gerundref09_Copy_ok ?_
  have z1 := hs.terms
  have z2 := hs.nons
  have z3 := hs.rules
  simp (disch := omega) only [↓wr, ↓reduceIte, wq, eq_self, ne_eq, implies_true, oneV, intOp, goI, splice, sBuild, fillE, nilB, isNil, Nat.reduceEqDiff, Nat.reduceAdd, Nat.reduceLT, Nat.reduceLeDiff, Int.reduceNeg, Int.reduceToNat, reduceCtorEq, decide_true, decide_false, S_gerundref09_Copy, encG, encS]
  intro b1
  have o1 := (Owns.nil.new (H := fun _ => AObj.dead) (n := b1) rfl 4 [[.fro (g.terms.map encT), .fro (g.nons.map fun s => [gs s]), .fro (g.rules.map encR), gi g.start]])
  try simp (disch := omega) only [↓wr, ↓reduceIte, wq, eq_self, ne_eq, implies_true, oneV, intOp, goI, splice, sBuild, fillE, nilB, isNil, Nat.reduceEqDiff, Nat.reduceAdd, Nat.reduceLT, Nat.reduceLeDiff, Int.reduceNeg, Int.reduceToNat, reduceCtorEq, decide_true, decide_false, encG, encS]
  intro b2 hb2
  have o2 := (o1.new hb2 4 [[.emp 1, .emp 1, .emp 1, gi 0]]).perm (.swap _ _ _)
  have d21 := (dead_if hb2 arr_live).1
  try simp (disch := omega) only [↓wr, ↓reduceIte, wq, eq_self, ne_eq, implies_true, oneV, intOp, goI, splice, sBuild, fillE, nilB, isNil, Nat.reduceEqDiff, Nat.reduceAdd, Nat.reduceLT, Nat.reduceLeDiff, Int.reduceNeg, Int.reduceToNat, reduceCtorEq, decide_true, decide_false, encG, encS, d21, d21.symm]
  refine goApp_owns (o2.emp (k := 2) (sz := 3)) (by simp [cellOk, encT]) (by unfold limit; simp; omega) (by unfold limit; simp; omega) ?_
  intro u0 H1 o3 _
  have c0 := o3.head.cells
  have k0 := o3.head.cok
  have f1 := o3.is 1 rfl (by simp)
  simp (disch := omega) only [↓wr, ↓reduceIte, wq, eq_self, ne_eq, implies_true, oneV, intOp, goI, splice, sBuild, fillE, nilB, isNil, Nat.reduceEqDiff, Nat.reduceAdd, Nat.reduceLT, Nat.reduceLeDiff, Int.reduceNeg, Int.reduceToNat, reduceCtorEq, decide_true, decide_false, encG, encS, c0, k0, f1]
  have o4 := (o3.at 1 (by simp)).put (es' := [[u0, .fro (g.nons.map fun s => [gs s]), .fro (g.rules.map encR), gi g.start]]) rfl rfl
  simp only [List.nil_append, List.eraseIdx_cons_succ, List.eraseIdx_cons_zero] at o4
  refine goApp_owns (o4.emp (k := 2) (sz := 1)) (by simp [cellOk]) (by unfold limit; simp; omega) (by unfold limit; simp; omega) ?_
  intro u1 H2 o5 _
  have c1 := o5.head.cells
  have k1 := o5.head.cok
  have f2 := o5.is 1 rfl (by simp)
  simp (disch := omega) only [↓wr, ↓reduceIte, wq, eq_self, ne_eq, implies_true, oneV, intOp, goI, splice, sBuild, fillE, nilB, isNil, Nat.reduceEqDiff, Nat.reduceAdd, Nat.reduceLT, Nat.reduceLeDiff, Int.reduceNeg, Int.reduceToNat, reduceCtorEq, decide_true, decide_false, encG, encS, c1, k1, f2]
  have o6 := (o5.at 1 (by simp)).put (es' := [[u0, u1, .fro (g.rules.map encR), gi g.start]]) rfl rfl
  simp only [List.nil_append, List.eraseIdx_cons_succ, List.eraseIdx_cons_zero] at o6
  have o7 : Owns _ ((.emp 1, 3, builtE []) :: (.sl b1 0 1 4, 4, [[u0, u1, .fro (g.rules.map encR), gi g.start]]) :: (u0, 3, g.terms.map encT) :: (u1, 1, strsE g.nons) :: (.sl b2 0 1 4, 4, [[.emp 1, .emp 1, .emp 1, gi 0]]) :: builtL []) :=
    (o6.perm (.cons _ (.swap _ _ _))).emp (k := 1) (sz := 3)
  clear o1 o2 o3 o4 o5 o6 hb2 f1 f2
  refine LoopG.up g.rules.length (CopI g b1 b2 u0 u1) ⟨⟨.emp 1, [], rfl, by simp, o7⟩, rfl, rfl, rfl⟩ ?_
  clear o7
  rintro i k T H hk ⟨⟨u2, bs, t3, hbs, ho⟩, t1, t2, t4⟩
  have f1 := ho.is 1 rfl (by simp)
  simp (disch := omega) only [↓wr, ↓reduceIte, wq, eq_self, ne_eq, implies_true, oneV, intOp, goI, splice, sBuild, fillE, nilB, isNil, Nat.reduceEqDiff, Nat.reduceAdd, Nat.reduceLT, Nat.reduceLeDiff, Int.reduceNeg, Int.reduceToNat, reduceCtorEq, decide_true, decide_false, B_gerundref09_Copy_0, t1, t2, t3, t4, f1]
  refine GoB.dec (fun hc => ?_) (fun hc => ?_)
  · have hg2 : g.rules[i]? = some (g.rules[i]'(by omega)) := List.getElem?_eq_getElem (by omega)
    have hmem : g.rules[i]'(by omega) ∈ g.rules := List.getElem_mem _
    have htk : g.rules.take (i + 1) = g.rules.take i ++ [g.rules[i]'(by omega)] := by rw [List.take_add_one, hg2]; rfl
    generalize g.rules[i]'(by omega) = r at hg2 hmem htk
    have hr := hs.right r hmem
    simp (disch := omega) only [↓wr, ↓reduceIte, wq, eq_self, ne_eq, implies_true, oneV, intOp, goI, splice, sBuild, fillE, nilB, isNil, Nat.reduceEqDiff, Nat.reduceAdd, Nat.reduceLT, Nat.reduceLeDiff, Int.reduceNeg, Int.reduceToNat, reduceCtorEq, decide_true, decide_false, t1, t2, t3, t4, f1, List.getElem?_map, hg2, encR, encI]
    intro n hn
    have o1 := ho.new hn 3 [encR r]
    try simp (disch := omega) only [↓wr, ↓reduceIte, wq, eq_self, ne_eq, implies_true, oneV, intOp, goI, splice, sBuild, fillE, nilB, isNil, Nat.reduceEqDiff, Nat.reduceAdd, Nat.reduceLT, Nat.reduceLeDiff, Int.reduceNeg, Int.reduceToNat, reduceCtorEq, decide_true, decide_false, t1, t2, t3, t4, set_set]
    refine CallG.loud ((mo_Copy03 r.right (by omega) _).mono ?_)
    rintro v H1 ⟨hv, hfr⟩
    have o2 := Owns.come (H := H.set n (.arr 3 [encR r])) o1 hv (by rw [set_set] at hfr; exact hfr)
    have cv := hv.cells
    have kv := hv.cok
    have f5 := o2.is 1 rfl (by simp)
    simp only [encR, encI] at f5
    simp (disch := omega) only [↓wr, ↓reduceIte, wq, eq_self, ne_eq, implies_true, oneV, intOp, goI, splice, sBuild, fillE, nilB, isNil, Nat.reduceEqDiff, Nat.reduceAdd, Nat.reduceLT, Nat.reduceLeDiff, Int.reduceNeg, Int.reduceToNat, reduceCtorEq, decide_true, decide_false, t1, t2, t3, t4, f5, cv, kv]
    have o3 := (o2.at 1 (by simp)).put (es' := [[gi r.left, v, gi r.prec]]) rfl rfl
    simp only [List.eraseIdx_cons_succ, List.eraseIdx_cons_zero] at o3
    intro m hm
    try simp (disch := omega) only [↓wr, ↓reduceIte, wq, eq_self, ne_eq, implies_true, oneV, intOp, goI, splice, sBuild, fillE, nilB, isNil, Nat.reduceEqDiff, Nat.reduceAdd, Nat.reduceLT, Nat.reduceLeDiff, Int.reduceNeg, Int.reduceToNat, reduceCtorEq, decide_true, decide_false, t1, t2, t3, t4, cv, kv, elemsOf_new]
    have hbl : (builtE bs).length ≤ 60 := by
      have h1 := congrArg List.length hbs
      simp only [List.length_map, List.length_take] at h1
      simp only [builtE, List.length_map]
      omega
    have o4 := (o3.fresh (o := .arr 3 [[gi r.left, v, gi r.prec]]) hm).at 2 (by simp)
    refine goApp_owns o4 (by simp [cok_val, kv]) (by unfold limit; simp at hbl ⊢; omega) (by unfold limit; simp at hbl ⊢; omega) ?_
    intro u2' H4 o5 _
    simp (disch := omega) only [↓wr, ↓reduceIte, wq, eq_self, ne_eq, implies_true, oneV, intOp, goI, splice, sBuild, fillE, nilB, isNil, Nat.reduceEqDiff, Nat.reduceAdd, Nat.reduceLT, Nat.reduceLeDiff, Int.reduceNeg, Int.reduceToNat, reduceCtorEq, decide_true, decide_false, t1, t2, t3, t4]
    refine up_next hk (by omega) ⟨⟨u2', bs ++ [(v, r)], rfl, ?_, ?_⟩, t1, t2, rfl⟩
    · rw [List.map_append, hbs, htk]; rfl
    · have o6 := ((o5.at 1 (by simp)).tail).perm (.refl _)
      simp only [List.eraseIdx_cons_succ, List.eraseIdx_cons_zero] at o6
      refine o6.perm ?_
      simp only [builtE, builtL, List.map_append, List.map_cons, List.map_nil]
      exact .cons _ (List.perm_append_singleton (v, 1, intsE r.right) ((.sl b1 0 1 4, 4, [[u0, u1, .fro (g.rules.map encR), gi g.start]]) :: (u0, 3, g.terms.map encT) :: (u1, 1, strsE g.nons) :: (.sl b2 0 1 4, 4, [[.emp 1, .emp 1, .emp 1, gi 0]]) :: builtL bs)).symm
  · rw [List.take_of_length_le (by omega)] at hbs
    have f2 := ho.is 4 rfl (by simp)
    have c0 := (ho.own 2 rfl).cells
    have k0 := (ho.own 2 rfl).cok
    have c1 := (ho.own 3 rfl).cells
    have k1 := (ho.own 3 rfl).cok
    have c2 := (ho.own 0 rfl).cells
    have k2 := (ho.own 0 rfl).cok
    simp (disch := omega) only [↓wr, ↓reduceIte, wq, eq_self, ne_eq, implies_true, oneV, intOp, goI, splice, sBuild, fillE, nilB, isNil, Nat.reduceEqDiff, Nat.reduceAdd, Nat.reduceLT, Nat.reduceLeDiff, Int.reduceNeg, Int.reduceToNat, reduceCtorEq, decide_true, decide_false, t1, t2, t3, t4, f1, f2, c0, k0, c1, k1, c2, k2, d21, d21.symm]
    intro h' hh
    have o1 := (ho.at 1 (by simp)).put (es' := [[u0, u1, u2, gi g.start]]) rfl rfl
    simp only [List.eraseIdx_cons_succ, List.eraseIdx_cons_zero] at o1
    have o2 := (o1.at 4 (by simp)).put (es' := [[u0, u1, u2, gi g.start]]) rfl rfl
    simp only [List.eraseIdx_cons_succ, List.eraseIdx_cons_zero] at o2
    have hv : h'.view = (H.set b1 (.arr 4 [[u0, u1, u2, gi g.start]])).set b2 (.arr 4 [[u0, u1, u2, gi g.start]]) := hh
    rw [← hv] at o2
    exact frn_gram (o2.own 3 rfl) (o2.own 4 rfl) (o2.own 2 rfl) (fun y hy => o2.1 y (by
      refine List.mem_cons_of_mem _ (List.mem_cons_of_mem _ (List.mem_cons_of_mem _ (List.mem_cons_of_mem _ (List.mem_cons_of_mem _ ?_))))
      exact hy)) hbs

end Gv

/-
  The law on reducing.
  Conditions: lists that are no longer than an int says, numbers that are ints.
-/
set_option linter.unusedSimpArgs false
set_option maxRecDepth 100000
namespace Gv
open Go Go.Proofs

theorem foldl_addO_len : ∀ (l : List Rule) (acc : List Int), (l.foldl addO acc).length ≤ acc.length + l.length
  | [], acc => by simp
  | r :: l, acc => by
    have h1 := foldl_addO_len l (addO acc r)
    have h2 : (addO acc r).length ≤ acc.length + 1 := by unfold addO; split <;> simp
    simp only [List.foldl_cons, List.length_cons]
    omega
theorem ordO_len (p q : List Bool) (l : List Rule) : (ordO p q l).length ≤ l.length := by
  have h1 := foldl_addO_len (l.filter (keepR p q)) []
  have h2 := List.length_filter_le (keepR p q) l
  unfold ordO
  simp only [List.length_nil] at h1
  omega

theorem redG_ok {g : Gram} (hg : g.Ok) (p q : List Bool) : (redG g (numO (ordO p q g.rules)) p q).Ok := by
  have ho := ordO_len p q g.rules
  have h3 := hg.rules
  unfold Short at h3
  have hb : ∀ x, In64 (numO (ordO p q g.rules) x) := fun x => by
    have := numO_bd (ordO p q g.rules) x
    unfold In64; omega
  have hb2 : ∀ x, In64 (-1 - numO (ordO p q g.rules) x) := fun x => by
    have := numO_bd (ordO p q g.rules) x
    unfold In64; omega
  refine ⟨hg.terms, ?_, ?_, hb _, hg.term, fun r hr => ?_⟩
  · unfold Short; simp only [redG, List.length_map]; omega
  · have := List.length_filter_le (keepR p q) g.rules
    unfold Short; simp only [redG, List.length_map]; omega
  · simp only [redG, List.mem_map, List.mem_filter] at hr
    obtain ⟨r0, ⟨h0, _⟩, rfl⟩ := hr
    obtain ⟨_, i2, i3, i4⟩ := hg.rule r0 h0
    refine ⟨hb _, i2, by unfold Short at i3 ⊢; simpa [redRule] using i3, fun x hx => ?_⟩
    simp only [redRule, List.mem_map] at hx
    obtain ⟨s, hs, rfl⟩ := hx
    split
    · exact hb2 _
    · exact i4 s hs

theorem reduce09_ok {g : Gram} (hg : g.Ok) : (reduce09 g).1.Ok ∧ Short (reduce09 g).2.1 := by
  unfold reduce09
  split
  · split
    · refine ⟨redG_ok hg _ _, ?_⟩
      have h3 := hg.rules
      have := List.length_filter_le (keepR (grown09 g true) (reach09 g)) g.rules
      unfold Short at h3 ⊢
      simp only [keptI_len]; omega
    · exact ⟨noG_ok, by unfold Short; decide⟩
  · exact ⟨noG_ok, by unfold Short; decide⟩

def S_gerundlaw11_TrimReduces : SF := ⟨.seq (.region false [⟨none, [((some 1), .op (.frz (.tmp 0))), ((some 2), .op (.mov (.val (.val (.bool false)))))]⟩]) <|
  .seq (.seq (.region false [⟨none, [((some 10), .call (.val (.fn 12 [] [])) []), ((some 11), .op (.not (.tmp 10)))]⟩]) <|
  .cond (.tmp 11) (.seq (.region false [⟨none, [((some 2), .op (.mov (.val (.val (.bool false)))))]⟩]) <|
  .ret) (.skip)) <|
  .seq (.seq (.region false [⟨none, [((some 12), .op (.load (some 4) (.tmp 1))), ((some 13), .call (.val (.fn 13 [] [])) [(.tmp 12)])]⟩]) <|
  .cond (.tmp 13) (.seq (.region false [⟨none, [((some 2), .op (.mov (.val (.val (.bool true)))))]⟩]) <|
  .ret) (.skip)) <|
  .seq (.region false [⟨none, [((some 14), .op (.load (some 4) (.tmp 1))), ((some 15), .call (.val (.fn 23 [] [])) [(.tmp 14)]), ((some 3), .op (.alloc [(.emp 1), (.emp 1), (.emp 1), (.val (.int .i64 0))])), (none, .op (.store 4 (.tmp 3) (.tmp 15)))]⟩]) <|
  .seq (.region false [⟨none, [((some 17), .op (.load (some 4) (.tmp 3))), ((some 18), .call (.val (.fn 24 [] [])) [(.tmp 17)]), ((some 16), .op (.mov (.tmp 18))), ((some 19), .op (.ext 0 (.tmp 16))), ((some 20), .op (.ext 1 (.tmp 16))), ((some 21), .op (.ext 2 (.tmp 16))), ((some 4), .op (.alloc [(.emp 1), (.emp 1), (.emp 1), (.val (.int .i64 0))])), (none, .op (.store 4 (.tmp 4) (.tmp 19))), ((some 5), .op (.mov (.tmp 20))), ((some 6), .op (.mov (.tmp 21)))]⟩]) <|
  .seq (.region false [⟨none, [((some 23), .op (.load (some 4) (.tmp 1))), ((some 24), .call (.val (.fn 25 [] [])) [(.tmp 23)]), ((some 22), .op (.mov (.tmp 24))), ((some 25), .op (.ext 0 (.tmp 22))), ((some 26), .op (.ext 1 (.tmp 22))), ((some 27), .op (.ext 2 (.tmp 22))), ((some 7), .op (.alloc [(.emp 1), (.emp 1), (.emp 1), (.val (.int .i64 0))])), (none, .op (.store 4 (.tmp 7) (.tmp 25))), ((some 8), .op (.mov (.tmp 26))), ((some 9), .op (.mov (.tmp 27)))]⟩]) <|
  .seq (.region false [⟨none, [((some 28), .op (.load (some 4) (.tmp 4))), ((some 29), .op (.load (some 4) (.tmp 7))), ((some 30), .call (.val (.fn 26 [] [])) [(.tmp 28), (.tmp 29)]), ((some 31), .op (.mov (.tmp 30)))]⟩, ⟨(some (31, true)), [((some 32), .op (.mov (.tmp 5))), ((some 33), .op (.mov (.tmp 8))), ((some 34), .call (.val (.fn 27 [] [])) [(.tmp 32), (.tmp 33)])]⟩, ⟨none, [((some 35), .op (.pick (.tmp 31) (.tmp 34) (.val (.val (.bool false))))), ((some 36), .op (.mov (.tmp 35)))]⟩, ⟨(some (36, true)), [((some 37), .op (.mov (.tmp 6))), ((some 38), .op (.mov (.tmp 9))), ((some 39), .op (.arith .eql (.tmp 37) (.tmp 38)))]⟩, ⟨none, [((some 40), .op (.pick (.tmp 36) (.tmp 39) (.val (.val (.bool false))))), ((some 41), .op (.mov (.tmp 40)))]⟩, ⟨(some (41, true)), [((some 42), .op (.load (some 4) (.tmp 3))), ((some 43), .op (.load (some 4) (.tmp 1))), ((some 44), .call (.val (.fn 26 [] [])) [(.tmp 42), (.tmp 43)])]⟩, ⟨none, [((some 45), .op (.pick (.tmp 41) (.tmp 44) (.val (.val (.bool false))))), ((some 2), .op (.mov (.tmp 45)))]⟩]) <|
  .ret,
  [.tmp 2], 46⟩
theorem S_gerundlaw11_TrimReduces_ok : compF Tryz.prog 4 [1] = some S_gerundlaw11_TrimReduces := by kernel_rfl


set_option maxHeartbeats 2000000 in
theorem pc_TrimReduces (g : Gram) (hg : g.Ok) : PCall Tryz.prog 4 [.agg (encG g)] (gb true) := by
  refine PCall.val (gg_tree g) fun H => ?_
  refine MCall.of mixed S_gerundlaw11_TrimReduces_ok ?_
  simp (disch := omega) only [↓wr, ↓reduceIte, wq, eq_self, ne_eq, implies_true, oneV, intOp, goI, splice, sBuild, fillE, nilB, isNil, Nat.reduceEqDiff, Nat.reduceAdd, Nat.reduceLT, Nat.reduceLeDiff, Int.reduceNeg, Int.reduceToNat, reduceCtorEq, decide_true, decide_false, S_gerundlaw11_TrimReduces, encG, encS]
  refine CallG.pure pc_alive (by kernel_rfl) ?_
  simp (disch := omega) only [↓wr, ↓reduceIte, wq, eq_self, ne_eq, implies_true, oneV, intOp, goI, splice, sBuild, fillE, nilB, isNil, Nat.reduceEqDiff, Nat.reduceAdd, Nat.reduceLT, Nat.reduceLeDiff, Int.reduceNeg, Int.reduceToNat, reduceCtorEq, decide_true, decide_false, encG, encS]
  refine CallG.pure (pc_great g) (by kernel_rfl) ?_
  simp (disch := omega) only [↓wr, ↓reduceIte, wq, eq_self, ne_eq, implies_true, oneV, intOp, goI, splice, sBuild, fillE, nilB, isNil, Nat.reduceEqDiff, Nat.reduceAdd, Nat.reduceLT, Nat.reduceLeDiff, Int.reduceNeg, Int.reduceToNat, reduceCtorEq, decide_true, decide_false]
  refine GoB.split (fun e => ?_) (fun e => ?_)
  · simp (disch := omega) only [↓wr, ↓reduceIte, wq, eq_self, ne_eq, implies_true, oneV, intOp, goI, splice, sBuild, fillE, nilB, isNil, Nat.reduceEqDiff, Nat.reduceAdd, Nat.reduceLT, Nat.reduceLeDiff, Int.reduceNeg, Int.reduceToNat, reduceCtorEq, decide_true, decide_false]
  · have hs : g.Small := great_small e
    simp (disch := omega) only [↓wr, ↓reduceIte, wq, eq_self, ne_eq, implies_true, oneV, intOp, goI, splice, sBuild, fillE, nilB, isNil, Nat.reduceEqDiff, Nat.reduceAdd, Nat.reduceLT, Nat.reduceLeDiff, Int.reduceNeg, Int.reduceToNat, reduceCtorEq, decide_true, decide_false, encG, encS]
    refine CallG.pure (pn_Copy09 g (great_slim e)).pure (by kernel_rfl) ?_
    simp (disch := omega) only [↓wr, ↓reduceIte, wq, eq_self, ne_eq, implies_true, oneV, intOp, goI, splice, sBuild, fillE, nilB, isNil, Nat.reduceEqDiff, Nat.reduceAdd, Nat.reduceLT, Nat.reduceLeDiff, Int.reduceNeg, Int.reduceToNat, reduceCtorEq, decide_true, decide_false, encG, encS]
    intro n3 hn3
    try simp (disch := omega) only [↓wr, ↓reduceIte, wq, eq_self, ne_eq, implies_true, oneV, intOp, goI, splice, sBuild, fillE, nilB, isNil, Nat.reduceEqDiff, Nat.reduceAdd, Nat.reduceLT, Nat.reduceLeDiff, Int.reduceNeg, Int.reduceToNat, reduceCtorEq, decide_true, decide_false, encG, encS]
    refine CallG.pure (pn_tReduce g hg hs).pure (by kernel_rfl) ?_
    have hR := pn_Reduce11 g hg
    obtain ⟨hk, hl⟩ := reduce09_ok hg
    generalize reduce09 g = x at hR hk hl ⊢
    obtain ⟨k, il, er⟩ := x
    simp (disch := omega) only [↓wr, ↓reduceIte, wq, eq_self, ne_eq, implies_true, oneV, intOp, goI, splice, sBuild, fillE, nilB, isNil, Nat.reduceEqDiff, Nat.reduceAdd, Nat.reduceLT, Nat.reduceLeDiff, Int.reduceNeg, Int.reduceToNat, reduceCtorEq, decide_true, decide_false, outR, encG, encS]
    intro n4 hn4
    have d43 := (dead_if hn4 arr_live).1
    refine CallG.pure hR.pure (by kernel_rfl) ?_
    simp (disch := omega) only [↓wr, ↓reduceIte, wq, eq_self, ne_eq, implies_true, oneV, intOp, goI, splice, sBuild, fillE, nilB, isNil, Nat.reduceEqDiff, Nat.reduceAdd, Nat.reduceLT, Nat.reduceLeDiff, Int.reduceNeg, Int.reduceToNat, reduceCtorEq, decide_true, decide_false, outR, encG, encS]
    intro n7 hn7
    have d74 := (dead_if hn7 arr_live).1
    have hn7 := (dead_if (dead_if hn7 arr_live).2 arr_live).2
    have d73 := (dead_if hn7 arr_live).1
    try simp (disch := omega) only [↓wr, ↓reduceIte, wq, eq_self, ne_eq, implies_true, oneV, intOp, goI, splice, sBuild, fillE, nilB, isNil, Nat.reduceEqDiff, Nat.reduceAdd, Nat.reduceLT, Nat.reduceLeDiff, Int.reduceNeg, Int.reduceToNat, reduceCtorEq, decide_true, decide_false, outR, encG, encS, d43, d74, d73, d43.symm, d74.symm, d73.symm]
    refine CallG.pure (pc_Same09 k k hk) (by kernel_rfl) ?_
    repeat' (first | (refine GoB.dec (fun _ => ?_) (fun _ => ?_)) | (refine GoB.eq (fun _ => ?_) (fun _ => ?_)) | (refine GoB.ne (fun _ => ?_) (fun _ => ?_)) | (refine GoB.split (fun _ => ?_) (fun _ => ?_)) | (refine CallG.pure (pc_Ints il il hl) (by kernel_rfl) ?_) | (refine CallG.pure (pc_Same09 g g hg) (by kernel_rfl) ?_) | (simp (disch := omega) only [↓wr, ↓reduceIte, wq, eq_self, ne_eq, implies_true, oneV, intOp, goI, splice, sBuild, fillE, nilB, isNil, Nat.reduceEqDiff, Nat.reduceAdd, Nat.reduceLT, Nat.reduceLeDiff, Int.reduceNeg, Int.reduceToNat, reduceCtorEq, decide_true, decide_false, encG, encS, d43, d74, d73, d43.symm, d74.symm, d73.symm]))
    all_goals simp_all
end Gv

/-
  What is reduced, is right, and is its own reduction.
  Conditions: none.
-/
set_option linter.unusedSimpArgs false
namespace Gv
open Go Go.Proofs

/-! places -/
theorem idxF_get {x : Int} : ∀ (o : List Int) (i : Int), x ∈ o → ∃ k : Nat, idxF (fun y => y == x) o i = i + k ∧ o[k]? = some x
  | [], _, h => by simp at h
  | y :: o, i, h => by
    by_cases e : y = x
    · exact ⟨0, by simp [idxF, e], by simp [e]⟩
    · have hx : x ∈ o := by
        rcases List.mem_cons.1 h with rfl | h
        · exact absurd rfl e
        · exact h
      obtain ⟨k, h1, h2⟩ := idxF_get o (i + 1) hx
      exact ⟨k + 1, by simp only [idxF]; rw [if_neg (by simp [e]), h1]; push_cast; omega, by simpa using h2⟩
theorem numO_get {o : List Int} {x : Int} (h : x ∈ o) : o[(numO o x).toNat]? = some x := by
  obtain ⟨k, h1, h2⟩ := idxF_get o 0 h
  have : numO o x = k := by unfold numO; omega
  rw [this]; simpa using h2
theorem numO_at {o : List Int} (hn : o.Nodup) {k : Nat} {x : Int} (h : o[k]? = some x) : numO o x = k := by
  have hx := List.mem_of_getElem? h
  have h1 := numO_get hx
  have h2 := numO_lt hx
  obtain ⟨hk, h3⟩ := List.getElem?_eq_some_iff.1 h
  obtain ⟨hk2, h4⟩ := List.getElem?_eq_some_iff.1 h1
  have := (List.getElem_inj hn).1 (h4.trans h3.symm)
  omega

theorem foldl_addO_nodup : ∀ (l : List Rule) (acc : List Int), acc.Nodup → (l.foldl addO acc).Nodup
  | [], _, h => h
  | r :: l, acc, h => foldl_addO_nodup l _ (addO_nodup h)
theorem ordO_nodup (p q : List Bool) (l : List Rule) : (ordO p q l).Nodup := foldl_addO_nodup _ _ List.nodup_nil

theorem addO_ext (acc : List Int) (r : Rule) : ∃ m, addO acc r = acc ++ m := by
  unfold addO
  split
  · exact ⟨[], by simp⟩
  · exact ⟨_, rfl⟩
theorem foldl_addO_ext : ∀ (l : List Rule) (acc : List Int), ∃ m, l.foldl addO acc = acc ++ m
  | [], acc => ⟨[], by simp⟩
  | r :: l, acc => by
    obtain ⟨m, hm⟩ := addO_ext acc r
    obtain ⟨k, hk⟩ := foldl_addO_ext l (addO acc r)
    exact ⟨m ++ k, by rw [List.foldl_cons, hk, hm, List.append_assoc]⟩

theorem numO_pre {a b : List Int} {x : Int} (h : x ∈ a) : numO (a ++ b) x = numO a x := by
  unfold numO
  rw [idxF_append _ _ _ _ (by omega)]
  have := numO_lt h
  unfold numO at this
  rw [if_pos this.1]

/-- The numbers come in the order of the rules. -/
theorem rulesL_red {r : Gram} {o : List Int} (ho : o.Nodup) (hr : r.nons.length = o.length) : ∀ (l : List Rule) (acc : List Int), o = l.foldl addO acc → (∀ x ∈ l, ruleB r (redRule (numO o) x) = true) → rulesL r (l.map (redRule (numO o))) ((acc.length : Int) - 1) = true
  | [], acc, h, _ => by
    simp only [List.foldl_nil] at h
    simp [rulesL, hr, h]
  | x :: l, acc, h, hb => by
    simp only [List.map_cons, rulesL, Bool.and_eq_true, decide_eq_true_eq]
    rw [List.foldl_cons] at h
    have h1 : (redRule (numO o) x).left = numO o x.left := rfl
    obtain ⟨m, hm⟩ := foldl_addO_ext l (addO acc x)
    rw [← h] at hm
    by_cases hx : x.left ∈ acc
    · have e : addO acc x = acc := by unfold addO; rw [if_pos hx]
      rw [e] at hm h
      have h2 := numO_lt hx
      have h3 : numO o x.left = numO acc x.left := by rw [hm]; exact numO_pre hx
      rw [h1, h3, if_neg (by omega)]
      exact ⟨⟨⟨h2.1, by omega⟩, hb x (by simp)⟩, rulesL_red ho hr l acc h fun y hy => hb y (by simp [hy])⟩
    · have e : addO acc x = acc ++ [x.left] := by unfold addO; rw [if_neg hx]
      rw [e] at hm h
      have h3 : numO o x.left = acc.length := numO_at ho (by rw [hm]; simp)
      rw [h1, h3, if_pos (by omega)]
      refine ⟨⟨⟨by omega, by omega⟩, hb x (by simp)⟩, ?_⟩
      have := rulesL_red ho hr l (acc ++ [x.left]) h fun y hy => hb y (by simp [hy])
      rw [List.length_append] at this
      simpa using this

theorem termsL_same {g r : Gram} (h : r.terms = g.terms) : ∀ (l : List Term) (i : Int), termsL r l i = termsL g l i
  | [], _ => rfl
  | t :: l, i => by
    simp only [termsL, termsL_same h l]
    congr 1
    simp only [termB, termI, lvlsB, h]

theorem int_nodup_len {o : List Int} {n : Nat} (h : o.Nodup) (hb : ∀ x ∈ o, 0 ≤ x ∧ x < n) : o.length ≤ n := by
  have := nodup_len o ((List.range n).map fun (k : Nat) => (k : Int)) h fun x hx => by
    have := hb x hx
    exact List.mem_map.2 ⟨x.toNat, List.mem_range.2 (by omega), by omega⟩
  simpa using this

/-- What stands when a grammar is reduced. -/
structure Red (g : Gram) (p q : List Bool) (o : List Int) (r : Gram) : Prop where
  right : right09 g = true
  pe : p = grown09 g true
  qe : q = reach09 g
  oe : o = ordO p q g.rules
  re : r = redG g (numO o) p q
  nodup : o.Nodup
  inside : ∀ x ∈ o, 0 ≤ x ∧ x < g.nons.length
  kept : ∀ R ∈ g.rules, keepR p q R = true → R.left ∈ o ∧ ∀ s ∈ R.right, s < 0 → -1 - s ∈ o
  from_ : ∀ x ∈ o, ∃ R ∈ g.rules, keepR p q R = true ∧ R.left = x
  start : g.start ∈ o

theorem red_of {g : Gram} (hr : right09 g = true) (hp : (grown09 g true).getD g.start.toNat false = true) : Red g (grown09 g true) (reach09 g) (ordO (grown09 g true) (reach09 g) g.rules) (redG g (numO (ordO (grown09 g true) (reach09 g) g.rules)) (grown09 g true) (reach09 g)) := by
  have hf := right09_fine hr
  refine ⟨hr, rfl, rfl, rfl, rfl, ordO_nodup _ _ _, fun x hx => ?_, fun R hm hk => ⟨mem_ordO.2 ⟨R, hm, hk, rfl⟩, fun s hs hn => ?_⟩, fun x hx => mem_ordO.1 hx, in_ord hr hf.start0 hp (reach_start hr)⟩
  · obtain ⟨R, h1, _, rfl⟩ := mem_ordO.1 hx
    exact hf.left R h1
  · refine in_ord hr (by omega) ?_ (reach_next hr hm hk hs hn)
    rw [keepR, Bool.and_eq_true] at hk
    have := hk.2
    simp only [allG, List.all_eq_true] at this
    have := this s hs
    rwa [if_neg (by omega)] at this

section
variable {g r : Gram} {p q : List Bool} {o : List Int}

theorem Red.rules (h : Red g p q o r) : r.rules = (g.rules.filter (keepR p q)).map (redRule (numO o)) := by rw [h.re]; rfl
theorem Red.nons (h : Red g p q o r) : r.nons = o.map fun x => g.nons.getD x.toNat ⟨#[]⟩ := by rw [h.re, h.oe]; rfl
theorem Red.terms (h : Red g p q o r) : r.terms = g.terms := by rw [h.re]; rfl
theorem Red.startE (h : Red g p q o r) : r.start = numO o g.start := by rw [h.re]; rfl
theorem Red.len (h : Red g p q o r) : r.nons.length = o.length := by rw [h.nons]; simp

theorem Red.right_red (h : Red g p q o r) : right09 r = true := by
  have hf := right09_fine h.right
  have hR := h.right
  simp only [right09, terms09, nons09, Bool.and_eq_true, decide_eq_true_eq] at hR ⊢
  obtain ⟨⟨⟨⟨⟨⟨⟨a1, a2⟩, ⟨a3, a4⟩, a5⟩, a6⟩, a7⟩, a8⟩, a9⟩, a10⟩ := hR
  have hst := numO_lt h.start
  have hol : o.length ≤ g.nons.length := int_nodup_len h.nodup h.inside
  have hgn : g.nons.Nodup ∧ ∀ s ∈ g.nons, nameB (bts s) = true ∧ termI g s < 0 := by
    rw [nonsL_iff] at a5
    refine ⟨(idx_nodup g.nons).1 fun k s hk => ?_, fun s hs => ?_⟩
    · have := a5 k s hk
      simp only [nonB, nonI, Bool.and_eq_true, beq_iff_eq] at this
      have := this.1.2
      omega
    · obtain ⟨k, hk⟩ := List.getElem?_of_mem hs
      have := a5 k s hk
      simp only [nonB, Bool.and_eq_true, decide_eq_true_eq] at this
      exact ⟨this.1.1, this.2⟩
  have hget : ∀ x ∈ o, ∃ (hx : x.toNat < g.nons.length), g.nons.getD x.toNat ⟨#[]⟩ = g.nons[x.toNat] := fun x hx => by
    have := h.inside x hx
    exact ⟨by omega, by simp [List.getD_eq_getElem?_getD, List.getElem?_eq_getElem (show x.toNat < g.nons.length by omega)]⟩
  have hrn : r.nons.Nodup := by
    rw [h.nons, List.nodup_iff_pairwise_ne, List.pairwise_map]
    refine (List.Pairwise.and_mem.1 h.nodup).imp ?_
    rintro x y ⟨hx, hy, hne⟩ e
    obtain ⟨h1, h2⟩ := hget x hx
    obtain ⟨h3, h4⟩ := hget y hy
    rw [h2, h4] at e
    have h5 := (List.getElem_inj hgn.1).1 e
    have h6 := h.inside x hx
    have h7 := h.inside y hy
    exact hne (by omega)
  have hrules : (g.rules.filter (keepR p q)).length ≤ g.rules.length := List.length_filter_le _ _
  obtain ⟨R0, hR0, hk0, _⟩ := h.from_ _ h.start
  have hpos : 0 < (g.rules.filter (keepR p q)).length := List.length_pos_of_mem (List.mem_filter.2 ⟨hR0, hk0⟩)
  have hrl : r.rules.length = (g.rules.filter (keepR p q)).length := by rw [h.rules]; simp
  refine ⟨⟨⟨⟨⟨⟨⟨by rw [h.terms]; exact a1, ?_⟩, ⟨by rw [h.len]; omega, by rw [h.len]; omega⟩, ?_⟩, by omega⟩, by omega⟩, by rw [h.startE]; omega⟩, by rw [h.startE, h.len]; omega⟩, ?_⟩
  · rw [h.terms, termsL_same h.terms]; exact a2
  · rw [nonsL_iff]
    intro k s hk
    have hm := List.mem_of_getElem? hk
    have hidx := (idx_nodup r.nons).2 hrn k s hk
    rw [h.nons, List.mem_map] at hm
    obtain ⟨x, hx, rfl⟩ := hm
    obtain ⟨h1, h2⟩ := hget x hx
    obtain ⟨h3, h4⟩ := hgn.2 _ (h2 ▸ List.getElem_mem h1 : g.nons.getD x.toNat ⟨#[]⟩ ∈ g.nons)
    simp only [nonB, nonI, Bool.and_eq_true, beq_iff_eq, decide_eq_true_eq]
    refine ⟨⟨h3, by rw [hidx]; omega⟩, ?_⟩
    simp only [termI, h.terms] at h4 ⊢
    exact h4
  · rw [h.rules]
    have := rulesL_red (r := r) h.nodup h.len (g.rules.filter (keepR p q)) [] (by rw [h.oe]; rfl) (fun x hx => ?_)
    · simpa using this
    obtain ⟨hm, hk⟩ := List.mem_filter.1 hx
    obtain ⟨_, hin⟩ := h.kept x hm hk
    have hb := (rulesL_ok _ _ a10).2 x hm
    have hb := hb.2.2
    simp only [ruleB, Bool.and_eq_true, decide_eq_true_eq, List.all_eq_true] at hb ⊢
    obtain ⟨⟨⟨b1, b2⟩, b3⟩, b4⟩ := hb
    refine ⟨⟨⟨by simpa [redRule] using b1, b2⟩, by rw [h.terms]; exact b3⟩, fun s hs => ?_⟩
    simp only [redRule, List.mem_map] at hs
    obtain ⟨s0, hs0, rfl⟩ := hs
    have b5 := b4 s0 hs0
    by_cases hn : s0 < 0
    · rw [if_pos hn]
      have hl := numO_lt (hin s0 hs0 hn)
      simp only [symB, hasG, Bool.and_eq_true]
      rw [if_neg (by omega), decide_eq_false (p := 0 ≤ -1 - numO o (-1 - s0)) (by omega)]
      simp only [h.len, decide_eq_true_eq, Bool.false_and, Bool.not_false, and_true]
      omega
    · rw [if_neg hn]
      simp only [symB, hasG, h.terms] at b5 ⊢
      rw [if_pos (by omega)] at b5 ⊢
      exact b5

end

end Gv

/-
  What is reduced, is productive and reachable throughout, and is its own reduction.
  Conditions: none.
-/
set_option linter.unusedSimpArgs false
namespace Gv
open Go Go.Proofs

/-- What derives a word. -/
inductive Der (g : Gram) : Int → Prop
  | mk (R : Rule) : R ∈ g.rules → (∀ s ∈ R.right, s < 0 → Der g (-1 - s)) → Der g R.left
/-- What is reached. -/
inductive Rch (g : Gram) (p : List Bool) : Int → Prop
  | start : Rch g p g.start
  | next (R : Rule) (s : Int) : R ∈ g.rules → Rch g p R.left → allG R.right p true = true → s ∈ R.right → s < 0 → Rch g p (-1 - s)

theorem allG_iff {l : List Int} {p : List Bool} : allG l p true = true ↔ ∀ s ∈ l, s < 0 → p.getD (-1 - s).toNat false = true := by
  simp only [allG, List.all_eq_true]
  constructor
  · intro h s hs hn
    have := h s hs
    rwa [if_neg (by omega)] at this
  · intro h s hs
    by_cases hn : s < 0
    · rw [if_neg (by omega)]; exact h s hs hn
    · rw [if_pos (by omega)]

theorem getD_set {l : List Bool} {i j : Nat} (h : (l.set i true).getD j false = true) : j = i ∨ l.getD j false = true := by
  by_cases e : i = j
  · exact .inl e.symm
  · right
    simp only [List.getD_eq_getElem?_getD, List.getElem?_set, if_neg e] at h ⊢
    exact h
theorem none_false {g : Gram} {i : Nat} : (none11 g).getD i false = false := by
  simp only [none11, List.getD_eq_getElem?_getD, List.getElem?_replicate]
  split <;> rfl

theorem der_of_grown {g : Gram} (hr : right09 g = true) : ∀ i : Nat, (grown09 g true).getD i false = true → Der g i := by
  have hf := right09_fine hr
  have hst : ∀ (is : List Bool) (R : Rule), R ∈ g.rules → (∀ i : Nat, is.getD i false = true → Der g i) → ∀ i : Nat, (step11 true is R).getD i false = true → Der g i := by
    intro is R hR h i hi
    unfold step11 at hi
    split at hi
    · rename_i ha
      rcases getD_set hi with rfl | hi
      · have := hf.left R hR
        have e : ((R.left.toNat : Nat) : Int) = R.left := by omega
        rw [e]
        refine .mk R hR fun s hs hn => ?_
        have := h _ (allG_iff.1 ha s hs hn)
        rwa [show (((-1 - s).toNat : Nat) : Int) = -1 - s by omega] at this
      · exact h i hi
    · exact h i hi
  have hfold : ∀ (l : List Rule) (is : List Bool), (∀ R ∈ l, R ∈ g.rules) → (∀ i : Nat, is.getD i false = true → Der g i) → ∀ i : Nat, (l.foldl (step11 true) is).getD i false = true → Der g i := by
    intro l
    induction l with
    | nil => intro is _ h; exact h
    | cons R l ih => intro is hl h; exact ih _ (fun x hx => hl x (by simp [hx])) (hst is R (hl R (by simp)) h)
  have hit : ∀ (n : Nat) (is : List Bool), (∀ i : Nat, is.getD i false = true → Der g i) → ∀ i : Nat, (iter (round11 g true) n is).getD i false = true → Der g i := by
    intro n
    induction n with
    | zero => intro is h; exact h
    | succ n ih => intro is h; exact ih _ (hfold g.rules is (fun _ h => h) h)
  rw [grown09, if_pos hr]
  exact hit _ _ fun i hi => by rw [none_false] at hi; simp at hi

theorem step11_le (t : Bool) (is : List Bool) (R : Rule) : LeB is (step11 t is R) := by
  unfold step11
  split
  · exact .set _ _
  · exact .refl _
theorem fold11_le (t : Bool) : ∀ (l : List Rule) (is : List Bool), LeB is (l.foldl (step11 t) is)
  | [], is => .refl _
  | R :: l, is => (step11_le t is R).trans (fold11_le t l _)
theorem fix11_step {t : Bool} : ∀ {l : List Rule} {is : List Bool}, l.foldl (step11 t) is = is → ∀ R ∈ l, step11 t is R = is
  | [], _, _, _, h => by simp at h
  | R :: l, is, h, x, hx => by
    rw [List.foldl_cons] at h
    have h1 := fold11_le t l (step11 t is R)
    rw [h] at h1
    have h2 := (h1.anti (step11_le t is R))
    rcases List.mem_cons.1 hx with rfl | hx
    · exact h2
    · rw [h2] at h; exact fix11_step h x hx

theorem grown_fix {g : Gram} (hr : right09 g = true) (t : Bool) : round11 g t (grown09 g t) = grown09 g t := by
  have hf := right09_fine hr
  have h := growG_fix (comesA t) g.rules 16 (none11 g) (by have := hf.nons; simp [none11]; omega)
  rw [round_A, grow_A hr] at h
  exact h.1
theorem grown_closed {g : Gram} (hr : right09 g = true) {t : Bool} {R : Rule} (hR : R ∈ g.rules) (ha : allG R.right (grown09 g t) t = true) : (grown09 g t).getD R.left.toNat false = true := by
  have h1 := fix11_step (grown_fix hr t) R hR
  have hf := right09_fine hr
  have hl := grown09_len hr t
  have hb := hf.left R hR
  unfold step11 at h1
  rw [if_pos ha] at h1
  rw [← h1]
  simp only [List.getD_eq_getElem?_getD]
  rw [List.getElem?_set_self (by omega)]
  rfl
theorem grown_of_der {g : Gram} (hr : right09 g = true) {x : Int} (h : Der g x) : (grown09 g true).getD x.toNat false = true := by
  induction h with
  | mk R hR _ ih => exact grown_closed hr hR (allG_iff.2 fun s hs hn => ih s hs hn)

theorem rch_of_reach {g : Gram} (hr : right09 g = true) : ∀ i : Nat, (reach09 g).getD i false = true → Rch g (grown09 g true) i := by
  have hf := right09_fine hr
  have hmk : ∀ (R : Rule), R ∈ g.rules → Rch g (grown09 g true) R.left → allG R.right (grown09 g true) true = true → ∀ (l : List Int) (is : List Bool), (∀ s ∈ l, s ∈ R.right) → (∀ i : Nat, is.getD i false = true → Rch g (grown09 g true) i) → ∀ i : Nat, (l.foldl mark is).getD i false = true → Rch g (grown09 g true) i := by
    intro R hR hl ha l
    induction l with
    | nil => intro is _ h; exact h
    | cons s l ih =>
      intro is hs h
      refine ih _ (fun x hx => hs x (by simp [hx])) fun i hi => ?_
      unfold mark at hi
      split at hi
      · rename_i hn
        rcases getD_set hi with rfl | hi
        · rw [show (((-1 - s).toNat : Nat) : Int) = -1 - s by omega]
          exact .next R s hR hl ha (hs s (by simp)) hn
        · exact h i hi
      · exact h i hi
  have hst : ∀ (is : List Bool) (R : Rule), R ∈ g.rules → (∀ i : Nat, is.getD i false = true → Rch g (grown09 g true) i) → ∀ i : Nat, (stepR (grown09 g true) is R).getD i false = true → Rch g (grown09 g true) i := by
    intro is R hR h
    unfold stepR
    split
    · rename_i ha
      rw [Bool.and_eq_true] at ha
      have h1 := h _ ha.1
      have := hf.left R hR
      rw [show ((R.left.toNat : Nat) : Int) = R.left by omega] at h1
      exact hmk R hR h1 ha.2 R.right is (fun _ h => h) h
    · exact h
  have hfold : ∀ (l : List Rule) (is : List Bool), (∀ R ∈ l, R ∈ g.rules) → (∀ i : Nat, is.getD i false = true → Rch g (grown09 g true) i) → ∀ i : Nat, (l.foldl (stepR (grown09 g true)) is).getD i false = true → Rch g (grown09 g true) i := by
    intro l
    induction l with
    | nil => intro is _ h; exact h
    | cons R l ih => intro is hl h; exact ih _ (fun x hx => hl x (by simp [hx])) (hst is R (hl R (by simp)) h)
  have hit : ∀ (n : Nat) (is : List Bool), (∀ i : Nat, is.getD i false = true → Rch g (grown09 g true) i) → ∀ i : Nat, (iter (roundR g (grown09 g true)) n is).getD i false = true → Rch g (grown09 g true) i := by
    intro n
    induction n with
    | zero => intro is h; exact h
    | succ n ih => intro is h; exact ih _ (hfold g.rules is (fun _ h => h) h)
  rw [reach09, if_pos hr]
  refine hit _ _ fun i hi => ?_
  rcases getD_set hi with rfl | hi
  · have := hf.start0
    rw [show ((g.start.toNat : Nat) : Int) = g.start by omega]
    exact .start
  · rw [none_false] at hi; simp at hi

theorem reach_of_rch {g : Gram} (hr : right09 g = true) {x : Int} (h : Rch g (grown09 g true) x) : (reach09 g).getD x.toNat false = true := by
  induction h with
  | start => exact reach_start hr
  | next R s hR _ ha hs hn ih => exact reach_next hr hR (by rw [keepR, ih, ha]; rfl) hs hn

section
variable {g r : Gram} {p q : List Bool} {o : List Int}

theorem Red.der (h : Red g p q o r) {x : Int} (hd : Der g x) : x ∈ o → Der r (numO o x) := by
  induction hd with
  | mk R hR hsub ih =>
    intro hx
    obtain ⟨R1, hR1, hk1, e1⟩ := h.from_ _ hx
    have hk : keepR p q R = true := by
      rw [keepR, Bool.and_eq_true] at hk1 ⊢
      refine ⟨by rw [← e1]; exact hk1.1, ?_⟩
      rw [h.pe]
      exact allG_iff.2 fun s hs hn => grown_of_der h.right (hsub s hs hn)
    have hin := (h.kept R hR hk).2
    have hm : redRule (numO o) R ∈ r.rules := by rw [h.rules]; exact List.mem_map.2 ⟨R, List.mem_filter.2 ⟨hR, hk⟩, rfl⟩
    refine Der.mk (redRule (numO o) R) hm fun s' hs' hn' => ?_
    simp only [redRule, List.mem_map] at hs'
    obtain ⟨s, hs, rfl⟩ := hs'
    by_cases hn : s < 0
    · rw [if_pos hn]
      have := ih s hs hn (hin s hs hn)
      rwa [show -1 - (-1 - numO o (-1 - s)) = numO o (-1 - s) by omega]
    · rw [if_neg hn] at hn'; omega

theorem Red.all_p (h : Red g p q o r) {x : Int} (hx : x ∈ o) : (grown09 r true).getD (numO o x).toNat false = true := by
  obtain ⟨R, hR, hk, rfl⟩ := h.from_ _ hx
  rw [keepR, Bool.and_eq_true, h.pe] at hk
  have h1 := grown_closed h.right hR hk.2
  have h2 := der_of_grown h.right _ h1
  have := (h.inside _ hx)
  rw [show ((R.left.toNat : Nat) : Int) = R.left by omega] at h2
  exact grown_of_der h.right_red (h.der h2 hx)

theorem Red.at_ (h : Red g p q o r) {k : Nat} (hk : k < o.length) : ∃ x ∈ o, numO o x = k ∧ o[k]? = some x := ⟨o[k], List.getElem_mem _, numO_at h.nodup (List.getElem?_eq_getElem hk), List.getElem?_eq_getElem hk⟩

theorem Red.grown_all (h : Red g p q o r) {k : Nat} (hk : k < o.length) : (grown09 r true).getD k false = true := by
  obtain ⟨x, hx, h1, _⟩ := h.at_ hk
  have := h.all_p hx
  rwa [h1, Int.toNat_natCast] at this

theorem Red.allG_r (h : Red g p q o r) {R : Rule} (hR : R ∈ r.rules) : allG R.right (grown09 r true) true = true := by
  have hf := right09_fine h.right_red
  refine allG_iff.2 fun s hs hn => h.grown_all ?_
  have := hf.neg hR hs hn
  rw [h.len] at this
  omega

theorem Red.rch (h : Red g p q o r) {x : Int} (hd : Rch g (grown09 g true) x) : Rch r (grown09 r true) (numO o x) := by
  induction hd with
  | start => rw [← h.startE]; exact .start
  | next R s hR h1 ha hs hn ih =>
    have hk : keepR p q R = true := by
      rw [keepR, h.pe, h.qe, ha, reach_of_rch h.right h1]; rfl
    have hm : redRule (numO o) R ∈ r.rules := by rw [h.rules]; exact List.mem_map.2 ⟨R, List.mem_filter.2 ⟨hR, hk⟩, rfl⟩
    have hin := (h.kept R hR hk).2 s hs hn
    have h2 := numO_lt hin
    have := Rch.next (g := r) (p := grown09 r true) (redRule (numO o) R) (-1 - numO o (-1 - s)) hm ih (h.allG_r hm) (by
      simp only [redRule, List.mem_map]
      exact ⟨s, hs, by rw [if_pos hn]⟩) (by omega)
    rwa [show -1 - (-1 - numO o (-1 - s)) = numO o (-1 - s) by omega] at this

theorem Red.reach_all (h : Red g p q o r) {k : Nat} (hk : k < o.length) : (reach09 r).getD k false = true := by
  obtain ⟨x, hx, h1, _⟩ := h.at_ hk
  obtain ⟨R, hR, hkk, rfl⟩ := h.from_ _ hx
  rw [keepR, Bool.and_eq_true, h.qe] at hkk
  have h2 := rch_of_reach h.right _ hkk.1
  have := (h.inside _ hx)
  rw [show ((R.left.toNat : Nat) : Int) = R.left by omega] at h2
  have := reach_of_rch h.right_red (h.rch h2)
  rwa [h1, Int.toNat_natCast] at this

def upTo (n : Nat) : List Int := (List.range n).map fun (k : Nat) => (k : Int)
theorem upTo_len (n : Nat) : (upTo n).length = n := by simp [upTo]
theorem upTo_get {n k : Nat} (h : k < n) : (upTo n)[k]? = some (k : Int) := by simp [upTo, h]
theorem upTo_nodup (n : Nat) : (upTo n).Nodup := by
  rw [upTo, List.nodup_iff_pairwise_ne, List.pairwise_map]
  exact (List.nodup_range (n := n)).imp fun h e => h (by omega)
theorem upTo_num {n : Nat} {x : Int} (h0 : 0 ≤ x) (h1 : x < n) : numO (upTo n) x = x := by
  have := numO_at (upTo_nodup n) (upTo_get (n := n) (k := x.toNat) (by omega))
  rw [show ((x.toNat : Nat) : Int) = x by omega] at this
  exact this

theorem keptI_all {p q : List Bool} : ∀ (l : List Rule) (i : Int), (∀ R ∈ l, keepR p q R = true) → keptI p q l i = (List.range l.length).map fun (k : Nat) => i + (k : Int)
  | [], _, _ => rfl
  | R :: l, i, h => by
    rw [keptI, if_pos (h R (by simp)), keptI_all l (i + 1) (fun x hx => h x (by simp [hx])), List.length_cons, List.range_succ_eq_map, List.map_cons, List.map_map]
    congr 1
    · omega
    · apply List.map_congr_left
      intro k _
      simp only [Function.comp]
      push_cast; omega

theorem foldl_addO_map {f : Int → Int} {o : List Int} (hf : ∀ x ∈ o, ∀ y ∈ o, f x = f y → x = y) : ∀ (l : List Rule) (acc : List Int), (∀ x ∈ acc, x ∈ o) → (∀ R ∈ l, R.left ∈ o) → (l.map (redRule f)).foldl addO (acc.map f) = (l.foldl addO acc).map f
  | [], _, _, _ => rfl
  | R :: l, acc, ha, hl => by
    have e : addO (acc.map f) (redRule f R) = (addO acc R).map f := by
      have h1 : (redRule f R).left = f R.left := rfl
      unfold addO
      rw [h1]
      by_cases h : R.left ∈ acc
      · rw [if_pos h, if_pos (List.mem_map.2 ⟨_, h, rfl⟩)]
      · rw [if_neg h, if_neg (fun hm => by
          obtain ⟨y, hy, e⟩ := List.mem_map.1 hm
          exact h (hf y (ha y hy) _ (hl R (by simp)) e ▸ hy))]
        simp
    rw [List.map_cons, List.foldl_cons, List.foldl_cons, e]
    refine foldl_addO_map hf l (addO acc R) (fun x hx => ?_) (fun x hx => hl x (by simp [hx]))
    unfold addO at hx
    split at hx
    · exact ha x hx
    · rcases List.mem_append.1 hx with hx | hx
      · exact ha x hx
      · simp at hx; subst hx; exact hl R (by simp)

theorem Red.inj (h : Red g p q o r) : ∀ x ∈ o, ∀ y ∈ o, numO o x = numO o y → x = y := by
  intro x hx y hy e
  have h1 := numO_get hx
  have h2 := numO_get hy
  rw [e, h2] at h1
  exact (Option.some.inj h1).symm

theorem Red.map_num (h : Red g p q o r) : o.map (numO o) = upTo o.length := by
  apply List.ext_getElem?
  intro k
  rw [List.getElem?_map]
  by_cases hk : k < o.length
  · rw [upTo_get hk, List.getElem?_eq_getElem hk, Option.map_some, numO_at h.nodup (List.getElem?_eq_getElem hk)]
  · rw [List.getElem?_eq_none (by omega), List.getElem?_eq_none (by rw [upTo_len]; omega)]; rfl

theorem Red.keep_all (h : Red g p q o r) : ∀ R ∈ r.rules, keepR (grown09 r true) (reach09 r) R = true := fun R hR => by
  have hf := right09_fine h.right_red
  have := hf.left R hR
  rw [h.len] at this
  rw [keepR, h.reach_all (by omega), h.allG_r hR]; rfl

theorem Red.ord (h : Red g p q o r) : ordO (grown09 r true) (reach09 r) r.rules = upTo o.length := by
  unfold ordO
  rw [List.filter_eq_self.2 h.keep_all, h.rules]
  have := foldl_addO_map h.inj (g.rules.filter (keepR p q)) [] (by simp) (fun R hR => by
    obtain ⟨h1, h2⟩ := List.mem_filter.1 hR
    exact (h.kept R h1 h2).1)
  rw [List.map_nil] at this
  rw [this, ← h.map_num]
  congr 1
  rw [h.oe]; rfl

/-- What is reduced, is its own reduction. -/
theorem Red.once (h : Red g p q o r) : reduce09 r = (r, upTo r.rules.length, 0) := by
  have hf := right09_fine h.right_red
  have hst := hf.start
  have hst0 := hf.start0
  rw [h.len] at hst
  rw [reduce09_pos h.right_red, if_pos (h.grown_all (by omega)), h.ord]
  have hk : keptI (grown09 r true) (reach09 r) r.rules 0 = upTo r.rules.length := by
    rw [keptI_all _ _ h.keep_all]
    unfold upTo
    apply List.map_congr_left
    intro k _; omega
  have hr : redG r (numO (upTo o.length)) (grown09 r true) (reach09 r) = r := by
    unfold redG
    rw [h.ord, List.filter_eq_self.2 h.keep_all]
    have e1 : ((upTo o.length).map fun x => r.nons.getD x.toNat ⟨#[]⟩) = r.nons := by
      apply List.ext_getElem?
      intro k
      rw [List.getElem?_map]
      by_cases hkk : k < o.length
      · rw [upTo_get hkk, Option.map_some]
        simp [List.getD_eq_getElem?_getD, List.getElem?_eq_getElem (show k < r.nons.length by rw [h.len]; omega)]
      · rw [List.getElem?_eq_none (by rw [upTo_len]; omega), List.getElem?_eq_none (by rw [h.len]; omega)]; rfl
    have e2 : r.rules.map (redRule (numO (upTo o.length))) = r.rules := by
      conv => rhs; rw [← List.map_id r.rules]
      apply List.map_congr_left
      intro R hR
      have hl := hf.left R hR
      rw [h.len] at hl
      unfold redRule
      rw [upTo_num hl.1 hl.2]
      have e3 : (R.right.map fun s => if s < 0 then -1 - numO (upTo o.length) (-1 - s) else s) = R.right := by
        conv => rhs; rw [← List.map_id R.right]
        apply List.map_congr_left
        intro s hs
        by_cases hn : s < 0
        · have := hf.neg hR hs hn
          rw [h.len] at this
          rw [if_pos hn, upTo_num (by omega) this]
          simp only [id]; omega
        · rw [if_neg hn]; rfl
      rw [e3]; rfl
    rw [e1, e2, upTo_num hst0 hst]
  rw [hr, hk]

/-- The places of the rules that are left: they rise. -/
theorem keptI_rise (p q : List Bool) : ∀ (l : List Rule) (i : Int), (∀ x ∈ keptI p q l i, i ≤ x) ∧ (keptI p q l i).Pairwise (· < ·)
  | [], i => by simp [keptI]
  | R :: l, i => by
    obtain ⟨h1, h2⟩ := keptI_rise p q l (i + 1)
    rw [keptI]
    split
    · refine ⟨fun x hx => ?_, List.pairwise_cons.2 ⟨fun x hx => ?_, h2⟩⟩
      · rcases List.mem_cons.1 hx with rfl | hx
        · omega
        · have := h1 x hx; omega
      · have := h1 x hx; omega
    · exact ⟨fun x hx => by have := h1 x hx; omega, h2⟩

end
end Gv

/-
  The law on reducing once.
  Conditions: lists that are no longer than an int says, numbers that are ints.
-/
set_option linter.unusedSimpArgs false
set_option maxRecDepth 100000
namespace Gv
open Go Go.Proofs

theorem reduce_cases (g : Gram) : (∃ e : Int, e ≠ 0 ∧ reduce09 g = (noG, [], e)) ∨ ∃ p q o r, Red g p q o r ∧ reduce09 g = (r, keptI p q g.rules 0, 0) := by
  by_cases hr : right09 g = true
  · rw [reduce09_pos hr]
    by_cases hp : (grown09 g true).getD g.start.toNat false = true
    · right
      rw [if_pos hp]
      exact ⟨_, _, _, _, red_of hr hp, rfl⟩
    · left
      rw [if_neg hp]
      exact ⟨9, by decide, rfl⟩
  · left
    exact ⟨1, by decide, by rw [reduce09, if_neg hr]⟩

/-- A symbol's name. -/
def nameG (g : Gram) (s : Int) : ByteArray := if hasG g s = true then (if 0 ≤ s then (g.terms.map Term.name).getD s.toNat ⟨#[]⟩ else g.nons.getD (-1 - s).toNat ⟨#[]⟩) else ⟨#[]⟩

def S_gerundref09_Name : SF := ⟨.seq (.region false [⟨none, [((some 2), .op (.frz (.tmp 0))), ((some 4), .op (.mov (.val (.val (.string ⟨#[]⟩)))))]⟩]) <|
  .seq (.seq (.region false [⟨none, [((some 5), .op (.load (some 4) (.tmp 2))), ((some 6), .op (.mov (.tmp 1))), ((some 7), .call (.val (.fn 30 [] [])) [(.tmp 5), (.tmp 6)]), ((some 8), .op (.not (.tmp 7)))]⟩]) <|
  .cond (.tmp 8) (.seq (.region false [⟨none, [((some 4), .op (.mov (.val (.val (.string ⟨#[]⟩)))))]⟩]) <|
  .ret) (.skip)) <|
  .seq (.seq (.region false [⟨none, [((some 9), .op (.mov (.tmp 1))), ((some 10), .op (.arith .geq (.tmp 9) (.val (.val (.int .i64 0)))))]⟩]) <|
  .cond (.tmp 10) (.seq (.region false [⟨none, [((some 11), .op (.addr 0 (.tmp 2))), ((some 12), .op (.load none (.tmp 11))), ((some 13), .op (.mov (.tmp 1))), ((some 14), .op (.idx 3 (.tmp 12) (.tmp 13))), ((some 15), .op (.addr 0 (.tmp 14))), ((some 16), .op (.load none (.tmp 15))), ((some 4), .op (.mov (.tmp 16)))]⟩]) <|
  .ret) (.skip)) <|
  .seq (.region false [⟨none, [((some 17), .op (.addr 1 (.tmp 2))), ((some 18), .op (.load none (.tmp 17))), ((some 19), .op (.mov (.tmp 1))), ((some 20), .op (.arith .sub (.val (.val (.int .i64 (-1)))) (.tmp 19))), ((some 21), .op (.idx 1 (.tmp 18) (.tmp 20))), ((some 22), .op (.load none (.tmp 21))), ((some 4), .op (.mov (.tmp 22)))]⟩]) <|
  .ret,
  [.tmp 4], 23⟩
theorem S_gerundref09_Name_ok : compF Tryz.prog 29 [2] = some S_gerundref09_Name := by kernel_rfl


theorem gnum_trees (g : Gram) (s : Int) : ∀ v ∈ [V.agg (encG g), gi s], Tree v := by
  intro v hv; simp at hv
  rcases hv with rfl | rfl
  · exact tree_agg _ (encG_tree g)
  · exact .val _

theorem pc_Name09 (g : Gram) (s : Int) (hs : In64 s) : PCall Tryz.prog 29 [.agg (encG g), gi s] (gs (nameG g s)) := by
  obtain ⟨i1, i2⟩ := hs
  refine PCall.val (gnum_trees g s) fun H => ?_
  refine MCall.of mixed S_gerundref09_Name_ok ?_
  simp (disch := omega) only [↓wr, ↓reduceIte, wq, eq_self, ne_eq, implies_true, oneV, intOp, goI, splice, sBuild, fillE, nilB, isNil, Nat.reduceEqDiff, Nat.reduceAdd, Nat.reduceLT, Nat.reduceLeDiff, Int.reduceNeg, Int.reduceToNat, reduceCtorEq, decide_true, decide_false, S_gerundref09_Name, encG, encS]
  refine CallG.pure (pc_Has g s ⟨i1, i2⟩) (by kernel_rfl) ?_
  simp (disch := omega) only [↓wr, ↓reduceIte, wq, eq_self, ne_eq, implies_true, oneV, intOp, goI, splice, sBuild, fillE, nilB, isNil, Nat.reduceEqDiff, Nat.reduceAdd, Nat.reduceLT, Nat.reduceLeDiff, Int.reduceNeg, Int.reduceToNat, reduceCtorEq, decide_true, decide_false]
  refine GoB.split (fun e => ?_) (fun e => ?_)
  · simp (disch := omega) only [↓wr, ↓reduceIte, wq, eq_self, ne_eq, implies_true, oneV, intOp, goI, splice, sBuild, fillE, nilB, isNil, Nat.reduceEqDiff, Nat.reduceAdd, Nat.reduceLT, Nat.reduceLeDiff, Int.reduceNeg, Int.reduceToNat, reduceCtorEq, decide_true, decide_false]
    refine GoB.dec (fun h => ?_) (fun h => ?_)
    · have hh : s.toNat < g.terms.length := by
        simp only [hasG] at e; rw [if_pos (by omega)] at e; simp at e; omega
      have hg2 : g.terms[s.toNat]? = some (g.terms[s.toNat]'hh) := List.getElem?_eq_getElem hh
      simp (disch := omega) only [↓wr, ↓reduceIte, wq, eq_self, ne_eq, implies_true, oneV, intOp, goI, splice, sBuild, fillE, nilB, isNil, Nat.reduceEqDiff, Nat.reduceAdd, Nat.reduceLT, Nat.reduceLeDiff, Int.reduceNeg, Int.reduceToNat, reduceCtorEq, decide_true, decide_false, encG, encS, encT, List.getElem?_map, hg2]
      rw [nameG, if_pos e, if_pos (by omega)]
      simp [List.getD_eq_getElem?_getD, hg2]
    · have hh : (-1 - s).toNat < g.nons.length := by
        simp only [hasG] at e; rw [if_neg (by omega)] at e; simp at e; omega
      have hg2 : g.nons[(-1 - s).toNat]? = some (g.nons[(-1 - s).toNat]'hh) := List.getElem?_eq_getElem hh
      simp (disch := omega) only [↓wr, ↓reduceIte, wq, eq_self, ne_eq, implies_true, oneV, intOp, goI, splice, sBuild, fillE, nilB, isNil, Nat.reduceEqDiff, Nat.reduceAdd, Nat.reduceLT, Nat.reduceLeDiff, Int.reduceNeg, Int.reduceToNat, reduceCtorEq, decide_true, decide_false, encG, encS, encT, List.getElem?_map, hg2]
      rw [nameG, if_pos e, if_neg (by omega)]
      simp [List.getD_eq_getElem?_getD, hg2]
  · simp (disch := omega) only [↓wr, ↓reduceIte, wq, eq_self, ne_eq, implies_true, oneV, intOp, goI, splice, sBuild, fillE, nilB, isNil, Nat.reduceEqDiff, Nat.reduceAdd, Nat.reduceLT, Nat.reduceLeDiff, Int.reduceNeg, Int.reduceToNat, reduceCtorEq, decide_true, decide_false]
    rw [nameG, if_neg (by simp [e])]

section
variable {g r : Gram} {p q : List Bool} {o : List Int}
theorem Red.ok (h : Red g p q o r) (hg : g.Ok) : r.Ok := by
  have := redG_ok hg p q
  rw [← h.oe, ← h.re] at this
  exact this
theorem Red.small (h : Red g p q o r) (hs : g.Small) : r.Small := by
  have := int_nodup_len h.nodup h.inside
  have := hs.names
  exact ⟨by rw [h.len, h.terms]; omega⟩
theorem Red.isRed (h : Red g p q o r) : isRed r = true := by
  rw [Gv.isRed, h.once]; simp
theorem Red.klen (h : Red g p q o r) : (keptI p q g.rules 0).length = r.rules.length := by
  rw [keptI_len, h.rules]; simp
theorem Red.p_all (h : Red g p q o r) {k : Nat} (hk : k < r.nons.length) : (grown09 r true)[k]? = some true := by
  rw [h.len] at hk
  have h1 := h.grown_all hk
  have h2 := grown09_len h.right_red true
  rw [h.len] at h2
  rw [List.getD_eq_getElem?_getD, List.getElem?_eq_getElem (by omega)] at h1
  rw [List.getElem?_eq_getElem (by omega)]
  simpa using h1
theorem Red.q_all (h : Red g p q o r) {k : Nat} (hk : k < r.nons.length) : (reach09 r)[k]? = some true := by
  rw [h.len] at hk
  have h1 := h.reach_all hk
  have h2 := reach09_len h.right_red
  rw [h.len] at h2
  rw [List.getD_eq_getElem?_getD, List.getElem?_eq_getElem (by omega)] at h1
  rw [List.getElem?_eq_getElem (by omega)]
  simpa using h1
/-- A nonterminal that is left, by its name. -/
theorem Red.non_at (h : Red g p q o r) {x : Int} (hx : x ∈ o) : r.nons[(numO o x).toNat]? = some (g.nons.getD x.toNat ⟨#[]⟩) := by
  rw [h.nons, List.getElem?_map, numO_get hx]; rfl
theorem non_get {g : Gram} {x : Int} (h0 : 0 ≤ x) (h1 : x < g.nons.length) : g.nons[x.toNat]? = some (g.nons.getD x.toNat ⟨#[]⟩) := by
  rw [List.getElem?_eq_getElem (by omega)]
  simp [List.getD_eq_getElem?_getD, List.getElem?_eq_getElem (show x.toNat < g.nons.length by omega)]
theorem Red.name (h : Red g p q o r) {R : Rule} (hR : R ∈ g.rules) (hk : keepR p q R = true) {s : Int} (hs : s ∈ R.right) : nameG r (if s < 0 then -1 - numO o (-1 - s) else s) = nameG g s := by
  have hf := right09_fine h.right
  have hh := hf.sym R hR s hs
  by_cases hn : s < 0
  · rw [if_pos hn]
    have hin := (h.kept R hR hk).2 s hs hn
    have hl := numO_lt hin
    have hb := h.inside _ hin
    have h1 : hasG r (-1 - numO o (-1 - s)) = true := by
      simp only [hasG]
      rw [if_neg (by omega)]
      simp only [h.len, decide_eq_true_eq]; omega
    rw [nameG, if_pos h1, if_neg (by omega), nameG, if_pos hh, if_neg (by omega)]
    rw [show -1 - (-1 - numO o (-1 - s)) = numO o (-1 - s) by omega, List.getD_eq_getElem?_getD, h.non_at hin]
    rfl
  · rw [if_neg hn]
    have h1 : hasG r s = true := by
      simp only [hasG, h.terms] at hh ⊢
      rw [if_pos (by omega)] at hh ⊢
      exact hh
    rw [nameG, if_pos h1, if_pos (by omega), nameG, if_pos hh, if_pos (by omega), h.terms]
end

/-- A call after which only so much is known of the store. -/
theorem CallG.pureAs {P : Program} {q : Bool} {f : FuncId} {H : View} {vs : List V} {K : V → View → Prop} {v : Veil (H, K)} {t : V} (Φ : View → Prop) (hc : PCall P f vs t) (hok : calleeOk P f = true) (hΦ : Φ H) (hk : ∀ H, Φ H → K t H) : CallG P q f vs H K v :=
  CallG.pure hc hok (hk H hΦ)

/-- What holds between two places of the lists. -/
def OnI (g r : Gram) (n3 : Nat) (il : List Int) (i : Nat) (T : Env) (H : View) : Prop :=
  H n3 = .arr 4 [encG r] ∧ T 1 = .fptr (encG g) 0 ∧ T 3 = .ptr n3 0 0 ∧ T 4 = encI il ∧ T 7 = encI (upTo r.rules.length) ∧ T 9 = encB (grown09 r true) ∧ T 10 = encB (reach09 r) ∧ T 11 = gi i
def OnJ (g r : Gram) (n3 : Nat) (il : List Int) (i : Nat) (T : Env) (H : View) : Prop :=
  H n3 = .arr 4 [encG r] ∧ T 1 = .fptr (encG g) 0 ∧ T 3 = .ptr n3 0 0 ∧ T 4 = encI il ∧ T 7 = encI (upTo r.rules.length) ∧ T 12 = gi i
def OnK (g r : Gram) (n3 n13 n14 : Nat) (il : List Int) (R S : Rule) (i j : Nat) (T : Env) (H : View) : Prop :=
  (H n3 = .arr 4 [encG r] ∧ H n13 = .arr 3 [encR R] ∧ H n14 = .arr 3 [encR S]) ∧ T 1 = .fptr (encG g) 0 ∧ T 3 = .ptr n3 0 0 ∧ T 4 = encI il ∧ T 7 = encI (upTo r.rules.length) ∧ T 12 = gi i ∧ T 13 = .ptr n13 0 0 ∧ T 14 = .ptr n14 0 0 ∧ T 15 = gi j

end Gv
