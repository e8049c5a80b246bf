/-
  Part 12 of the proof: what the machine does and what the functions answer.
  Conditions: those that each lemma names.
-/
import Derived.ProofKit
import Derived.SizedLaws
import Derived.Test.YtfcbldapbbhliaaGreatMGzBK
set_option linter.unusedSimpArgs false
set_option linter.unusedVariables false

/-
  The law's own question, whether the functions are alive; then the law itself.
  Conditions: lists that are no longer than an int says, numbers that are ints.
-/
set_option linter.unusedSimpArgs false
set_option maxRecDepth 100000
namespace Gv
open Go Go.Proofs

theorem red1 : reduce09 gram1 = (⟨gram1.terms, [⟨#[115]⟩], [⟨0, [1], 1⟩, ⟨0, [], (-1)⟩], 0⟩, [1, 2], 0) := by kernel_rfl
theorem red2 : reduce09 gram2 = (noG, [], 9) := by kernel_rfl
theorem red3 : reduce09 noG = (noG, [], 1) := by kernel_rfl
theorem g1f : grown09 gram1 false = [true, false, false] := by kernel_rfl
theorem g1t : grown09 gram1 true = [true, false, true] := by kernel_rfl
theorem g1r : reach09 gram1 = [true, false, false] := by kernel_rfl
def gram1r : Gram := ⟨gram1.terms, [⟨#[115]⟩], [⟨0, [1], 1⟩, ⟨0, [], (-1)⟩], 0⟩
theorem is1 : isRed gram1 = false := by kernel_rfl
theorem is2 : isRed gram1r = true := by kernel_rfl

theorem View.set_at {H : View} {id : Nat} {o : AObj} (h : H id = o) : H.set id o = H := by
  funext m
  simp only [View.set]
  split
  · rename_i e; subst e; exact h.symm
  · rfl

/-- Bytes, said to be bytes again. -/
theorem oldConvSame {P : Program} {T : Env} {H : View} {K : V → View → Prop} {w : Veil (T, H, K)} {t e ty : TypeId} {x : Operand} {id off len esz z : Nat} {es : List (List V)} (hu : P.underlying t = some (.slice e)) (he : P.underlying e = some (.int .u8))
    (hx : ev T x = .sl id off len esz) (hl : len ≠ 0) (hH : H id = .arr z es) (hk : K (.sl id off len esz) H) : GoOld P (.convert t t x) ty T H K w := by
  intro n _
  have hb : bytesConv P t t = true := by simp [bytesConv, hu]
  refine ⟨.sl id off len esz, .upd id (.arr z es), [id], ?_, ?_⟩
  · simp only [sI, aop, oper]
    rw [if_pos hb, hx]
    simp [aConvert, hu, he, hH, hl]
  · show K _ (H.set id (.arr z es))
    rw [View.set_at hH]; exact hk

theorem lent_bytes {H : View} {n : Nat} (l : List Int) (h : H n = .arr 1 (l.map fun x => [gy x])) : Lent H (.sl n 0 l.length 1) (encY l) :=
  Lent.own (.inr ⟨n, by simp, h⟩) fun e he v hv => by
    obtain ⟨x, _, rfl⟩ := List.mem_map.1 he
    simp at hv; subst hv; exact .val _

theorem gram1_ok : gram1.Ok := by
  refine ⟨by unfold Short; decide, by unfold Short; decide, by unfold Short; decide, by unfold In64; decide, ?_, ?_⟩
  · intro t ht; simp [gram1] at ht; rcases ht with rfl | rfl | rfl | rfl <;> unfold In64 <;> decide
  · intro r hr; simp [gram1] at hr; rcases hr with rfl | rfl | rfl | rfl | rfl <;> unfold In64 Short <;> decide
theorem gram1r_ok : gram1r.Ok := by
  refine ⟨by unfold Short; decide, by unfold Short; decide, by unfold Short; decide, by unfold In64; decide, ?_, ?_⟩
  · intro t ht; simp [gram1r, gram1] at ht; rcases ht with rfl | rfl | rfl | rfl <;> unfold In64 <;> decide
  · intro r hr; simp [gram1r] at hr; rcases hr with rfl | rfl <;> unfold In64 Short <;> decide
theorem gram2_ok : gram2.Ok := by
  refine ⟨by unfold Short; decide, by unfold Short; decide, by unfold Short; decide, by unfold In64; decide, ?_, ?_⟩
  · intro t ht; simp [gram2] at ht; rcases ht with rfl | rfl <;> unfold In64 <;> decide
  · intro r hr; simp [gram2] at hr; rcases hr with rfl | rfl <;> unfold In64 Short <;> decide
theorem noG_ok : noG.Ok := by
  refine ⟨by unfold Short; decide, by unfold Short; decide, by unfold Short; decide, by unfold In64; decide, ?_, ?_⟩
  · intro t ht; simp [noG] at ht
  · intro r hr; simp [noG] at hr
theorem gram1_small : gram1.Small := ⟨by decide⟩
theorem gram1r_small : gram1r.Small := ⟨by decide⟩
theorem gram2_small : gram2.Small := ⟨by decide⟩
theorem noG_small : noG.Small := ⟨by decide⟩

theorem tRed1 : PNew Tryz.prog 24 [.agg (encG gram1)] (outR (gram1r, [1, 2], 0)) := by
  have := pn_tReduce gram1 gram1_ok gram1_small
  rwa [red1] at this
theorem tRed2 : PNew Tryz.prog 24 [.agg (encG gram2)] (outR (noG, [], 9)) := by
  have := pn_tReduce gram2 gram2_ok gram2_small
  rwa [red2] at this
theorem tRed3 : PNew Tryz.prog 24 [.agg (encG noG)] (outR (noG, [], 1)) := by
  have := pn_tReduce noG noG_ok noG_small
  rwa [red3] at this

def S_gerundlaw11_alive : SF := ⟨.seq (.region false [⟨none, [((some 0), .op (.mov (.val (.val (.bool false)))))]⟩]) <|
  .seq (.region false [⟨none, [((some 17), .op (.bslice 46 1 [(.val (.int .u8 0))] [(0, (.val (.val (.int .u8 37)))), (1, (.val (.val (.int .u8 37)))), (2, (.val (.val (.int .u8 32)))), (3, (.val (.val (.int .u8 115)))), (4, (.val (.val (.int .u8 32)))), (5, (.val (.val (.int .u8 58)))), (6, (.val (.val (.int .u8 32)))), (7, (.val (.val (.int .u8 39)))), (8, (.val (.val (.int .u8 97)))), (9, (.val (.val (.int .u8 39)))), (10, (.val (.val (.int .u8 32)))), (11, (.val (.val (.int .u8 117)))), (12, (.val (.val (.int .u8 32)))), (13, (.val (.val (.int .u8 124)))), (14, (.val (.val (.int .u8 32)))), (15, (.val (.val (.int .u8 39)))), (16, (.val (.val (.int .u8 98)))), (17, (.val (.val (.int .u8 39)))), (18, (.val (.val (.int .u8 32)))), (19, (.val (.val (.int .u8 124)))), (20, (.val (.val (.int .u8 32)))), (21, (.val (.val (.int .u8 59)))), (22, (.val (.val (.int .u8 32)))), (23, (.val (.val (.int .u8 117)))), (24, (.val (.val (.int .u8 32)))), (25, (.val (.val (.int .u8 58)))), (26, (.val (.val (.int .u8 32)))), (27, (.val (.val (.int .u8 117)))), (28, (.val (.val (.int .u8 32)))), (29, (.val (.val (.int .u8 39)))), (30, (.val (.val (.int .u8 99)))), (31, (.val (.val (.int .u8 39)))), (32, (.val (.val (.int .u8 32)))), (33, (.val (.val (.int .u8 59)))), (34, (.val (.val (.int .u8 32)))), (35, (.val (.val (.int .u8 118)))), (36, (.val (.val (.int .u8 32)))), (37, (.val (.val (.int .u8 58)))), (38, (.val (.val (.int .u8 32)))), (39, (.val (.val (.int .u8 39)))), (40, (.val (.val (.int .u8 100)))), (41, (.val (.val (.int .u8 39)))), (42, (.val (.val (.int .u8 32)))), (43, (.val (.val (.int .u8 115)))), (44, (.val (.val (.int .u8 32)))), (45, (.val (.val (.int .u8 59))))])), ((some 18), .op (.old (.convert 53 53 (.tmp 17)) 53)), ((some 19), .call (.val (.fn 40 [] [])) [(.tmp 18)]), ((some 16), .op (.mov (.tmp 19))), ((some 20), .op (.ext 0 (.tmp 16))), ((some 21), .op (.ext 1 (.tmp 16))), ((some 22), .op (.ext 2 (.tmp 16))), ((some 1), .op (.alloc [(.emp 1), (.emp 1), (.emp 1), (.val (.int .i64 0))])), (none, .op (.store 4 (.tmp 1) (.tmp 20))), ((some 2), .op (.mov (.tmp 21))), ((some 3), .op (.mov (.tmp 22)))]⟩]) <|
  .seq (.region false [⟨none, [((some 24), .op (.load (some 4) (.tmp 1))), ((some 25), .call (.val (.fn 24 [] [])) [(.tmp 24)]), ((some 23), .op (.mov (.tmp 25))), ((some 26), .op (.ext 0 (.tmp 23))), ((some 27), .op (.ext 1 (.tmp 23))), ((some 28), .op (.ext 2 (.tmp 23))), ((some 4), .op (.alloc [(.emp 1), (.emp 1), (.emp 1), (.val (.int .i64 0))])), (none, .op (.store 4 (.tmp 4) (.tmp 26))), ((some 5), .op (.mov (.tmp 27))), ((some 6), .op (.mov (.tmp 28)))]⟩]) <|
  .seq (.region false [⟨none, [((some 30), .op (.bslice 22 1 [(.val (.int .u8 0))] [(0, (.val (.val (.int .u8 37)))), (1, (.val (.val (.int .u8 37)))), (2, (.val (.val (.int .u8 32)))), (3, (.val (.val (.int .u8 115)))), (4, (.val (.val (.int .u8 32)))), (5, (.val (.val (.int .u8 58)))), (6, (.val (.val (.int .u8 32)))), (7, (.val (.val (.int .u8 117)))), (8, (.val (.val (.int .u8 32)))), (9, (.val (.val (.int .u8 59)))), (10, (.val (.val (.int .u8 32)))), (11, (.val (.val (.int .u8 117)))), (12, (.val (.val (.int .u8 32)))), (13, (.val (.val (.int .u8 58)))), (14, (.val (.val (.int .u8 32)))), (15, (.val (.val (.int .u8 117)))), (16, (.val (.val (.int .u8 32)))), (17, (.val (.val (.int .u8 39)))), (18, (.val (.val (.int .u8 97)))), (19, (.val (.val (.int .u8 39)))), (20, (.val (.val (.int .u8 32)))), (21, (.val (.val (.int .u8 59))))])), ((some 31), .op (.old (.convert 53 53 (.tmp 30)) 53)), ((some 32), .call (.val (.fn 40 [] [])) [(.tmp 31)]), ((some 29), .op (.mov (.tmp 32))), ((some 33), .op (.ext 0 (.tmp 29))), ((some 34), .op (.ext 1 (.tmp 29))), ((some 35), .op (.ext 2 (.tmp 29))), ((some 7), .op (.alloc [(.emp 1), (.emp 1), (.emp 1), (.val (.int .i64 0))])), (none, .op (.store 4 (.tmp 7) (.tmp 33))), ((some 8), .op (.mov (.tmp 34))), ((some 9), .op (.mov (.tmp 35)))]⟩]) <|
  .seq (.region false [⟨none, [((some 37), .op (.load (some 4) (.tmp 7))), ((some 38), .call (.val (.fn 24 [] [])) [(.tmp 37)]), ((some 36), .op (.mov (.tmp 38))), ((some 39), .op (.ext 0 (.tmp 36))), ((some 40), .op (.ext 1 (.tmp 36))), ((some 41), .op (.ext 2 (.tmp 36))), ((some 10), .op (.alloc [(.emp 1), (.emp 1), (.emp 1), (.val (.int .i64 0))])), (none, .op (.store 4 (.tmp 10) (.tmp 39))), ((some 11), .op (.mov (.tmp 40))), ((some 12), .op (.mov (.tmp 41)))]⟩]) <|
  .seq (.region false [⟨none, [((some 43), .op (.build [(.emp 1), (.emp 1), (.emp 1), (.val (.int .i64 0))] [])), ((some 44), .call (.val (.fn 24 [] [])) [(.tmp 43)]), ((some 42), .op (.mov (.tmp 44))), ((some 45), .op (.ext 0 (.tmp 42))), ((some 46), .op (.ext 1 (.tmp 42))), ((some 47), .op (.ext 2 (.tmp 42))), ((some 13), .op (.alloc [(.emp 1), (.emp 1), (.emp 1), (.val (.int .i64 0))])), (none, .op (.store 4 (.tmp 13) (.tmp 45))), ((some 14), .op (.mov (.tmp 46))), ((some 15), .op (.mov (.tmp 47)))]⟩]) <|
  .seq (.region false [⟨none, [((some 48), .op (.mov (.tmp 6))), ((some 49), .op (.arith .eql (.tmp 48) (.val (.val (.int .i64 0))))), ((some 50), .op (.mov (.tmp 49)))]⟩, ⟨(some (50, true)), [((some 51), .op (.mov (.tmp 12))), ((some 52), .op (.arith .eql (.tmp 51) (.val (.val (.int .i64 9)))))]⟩, ⟨none, [((some 53), .op (.pick (.tmp 50) (.tmp 52) (.val (.val (.bool false))))), ((some 54), .op (.mov (.tmp 53)))]⟩, ⟨(some (54, true)), [((some 55), .op (.mov (.tmp 15))), ((some 56), .op (.arith .eql (.tmp 55) (.val (.val (.int .i64 1)))))]⟩, ⟨none, [((some 57), .op (.pick (.tmp 54) (.tmp 56) (.val (.val (.bool false))))), ((some 58), .op (.mov (.tmp 57)))]⟩, ⟨(some (58, true)), [((some 59), .op (.addr 1 (.tmp 4))), ((some 60), .op (.load none (.tmp 59))), ((some 61), .op (.len (.tmp 60))), ((some 62), .op (.arith .eql (.tmp 61) (.val (.val (.int .i64 1)))))]⟩, ⟨none, [((some 63), .op (.pick (.tmp 58) (.tmp 62) (.val (.val (.bool false))))), ((some 64), .op (.mov (.tmp 63)))]⟩, ⟨(some (64, true)), [((some 65), .op (.addr 2 (.tmp 4))), ((some 66), .op (.load none (.tmp 65))), ((some 67), .op (.len (.tmp 66))), ((some 68), .op (.arith .eql (.tmp 67) (.val (.val (.int .i64 2)))))]⟩, ⟨none, [((some 69), .op (.pick (.tmp 64) (.tmp 68) (.val (.val (.bool false))))), ((some 70), .op (.mov (.tmp 69)))]⟩, ⟨(some (70, true)), [((some 71), .op (.addr 0 (.tmp 4))), ((some 72), .op (.load none (.tmp 71))), ((some 73), .op (.len (.tmp 72))), ((some 74), .op (.arith .eql (.tmp 73) (.val (.val (.int .i64 4)))))]⟩, ⟨none, [((some 75), .op (.pick (.tmp 70) (.tmp 74) (.val (.val (.bool false))))), ((some 76), .op (.mov (.tmp 75)))]⟩, ⟨(some (76, true)), [((some 77), .op (.mov (.tmp 5))), ((some 78), .op (.bslice 2 1 [(.val (.int .i64 0))] [(0, (.val (.val (.int .i64 1)))), (1, (.val (.val (.int .i64 2))))])), ((some 79), .call (.val (.fn 27 [] [])) [(.tmp 77), (.tmp 78)])]⟩, ⟨none, [((some 80), .op (.pick (.tmp 76) (.tmp 79) (.val (.val (.bool false))))), ((some 81), .op (.mov (.tmp 80)))]⟩, ⟨(some (81, true)), [((some 82), .op (.load (some 4) (.tmp 1))), ((some 83), .call (.val (.fn 15 [] [])) [(.tmp 82)]), ((some 84), .op (.bslice 3 1 [(.val (.bool false))] [(0, (.val (.val (.bool true)))), (1, (.val (.val (.bool false)))), (2, (.val (.val (.bool false))))])), ((some 85), .call (.val (.fn 14 [] [])) [(.tmp 83), (.tmp 84)])]⟩, ⟨none, [((some 86), .op (.pick (.tmp 81) (.tmp 85) (.val (.val (.bool false))))), ((some 87), .op (.mov (.tmp 86)))]⟩, ⟨(some (87, true)), [((some 88), .op (.load (some 4) (.tmp 1))), ((some 89), .call (.val (.fn 17 [] [])) [(.tmp 88)]), ((some 90), .op (.bslice 3 1 [(.val (.bool false))] [(0, (.val (.val (.bool true)))), (1, (.val (.val (.bool false)))), (2, (.val (.val (.bool true))))])), ((some 91), .call (.val (.fn 14 [] [])) [(.tmp 89), (.tmp 90)])]⟩, ⟨none, [((some 92), .op (.pick (.tmp 87) (.tmp 91) (.val (.val (.bool false))))), ((some 93), .op (.mov (.tmp 92)))]⟩, ⟨(some (93, true)), [((some 94), .op (.load (some 4) (.tmp 1))), ((some 95), .call (.val (.fn 19 [] [])) [(.tmp 94)]), ((some 96), .op (.bslice 3 1 [(.val (.bool false))] [(0, (.val (.val (.bool true)))), (1, (.val (.val (.bool false)))), (2, (.val (.val (.bool false))))])), ((some 97), .call (.val (.fn 14 [] [])) [(.tmp 95), (.tmp 96)])]⟩, ⟨none, [((some 98), .op (.pick (.tmp 93) (.tmp 97) (.val (.val (.bool false))))), ((some 99), .op (.mov (.tmp 98)))]⟩, ⟨(some (99, true)), [((some 100), .op (.load (some 4) (.tmp 4))), ((some 101), .call (.val (.fn 21 [] [])) [(.tmp 100)])]⟩, ⟨none, [((some 102), .op (.pick (.tmp 99) (.tmp 101) (.val (.val (.bool false))))), ((some 103), .op (.mov (.tmp 102)))]⟩, ⟨(some (103, true)), [((some 104), .op (.load (some 4) (.tmp 1))), ((some 105), .call (.val (.fn 21 [] [])) [(.tmp 104)]), ((some 106), .op (.not (.tmp 105)))]⟩, ⟨none, [((some 107), .op (.pick (.tmp 103) (.tmp 106) (.val (.val (.bool false))))), ((some 0), .op (.mov (.tmp 107)))]⟩]) <|
  .ret,
  [.tmp 0], 108⟩
theorem S_gerundlaw11_alive_ok : compF Tryz.prog 12 [] = some S_gerundlaw11_alive := by kernel_rfl


/-- A call after which only so much is known of the store. -/
theorem CallG.lendAs {P : Program} {q : Bool} {f : FuncId} {H : View} {vs ts : List V} {K : V → View → Prop} {v : Veil (H, K)} {t : V} (Φ : View → Prop) (hc : PCall P f ts t) (hok : calleeOk P f = true) (hf : Bare t) (hl : Lents H vs ts) (hΦ : Φ H) (hk : ∀ H, Φ H → K t H) : CallG P q f vs H K v :=
  CallG.lend hc hok hf hl (hk H hΦ)

/-- No grammar at all. -/
theorem lent_noG {H : View} : Lent H (.agg [.emp 1, .emp 1, .emp 1, .val (.int .i64 0)]) (.agg (encG noG)) := by
  intro h _
  refine .agg _ _ rfl fun j hj => ?_
  match j, hj with
  | 0, _ => exact .emp _
  | 1, _ => exact .emp _
  | 2, _ => exact .emp _
  | 3, _ => exact .tree _ (.val _)
  | n + 4, hj => exact absurd hj (by simp only [List.length_cons, List.length_nil]; omega)

set_option maxHeartbeats 4000000 in
theorem pc_alive_of (g1 r1 g2 : Gram) (k1 : g1.Ok) (k2 : r1.Ok) (s1 : g1.Small) (s2 : r1.Small) (h1 : PNew Tryz.prog 40 [encY text1] (readOut g1)) (h2 : PNew Tryz.prog 40 [encY text2] (readOut g2))
    (c1 : PNew Tryz.prog 24 [.agg (encG g1)] (outR (r1, [1, 2], 0))) (c2 : PNew Tryz.prog 24 [.agg (encG g2)] (outR (noG, [], 9))) (c3 : PNew Tryz.prog 24 [.agg (encG noG)] (outR (noG, [], 1)))
    (l1 : r1.nons.length = 1) (l2 : r1.rules.length = 2) (l3 : r1.terms.length = 4)
    (e1 : grown09 g1 false = [true, false, false]) (e2 : grown09 g1 true = [true, false, true]) (e3 : reach09 g1 = [true, false, false]) (i1 : isRed r1 = true) (i2 : isRed g1 = false) : PCall Tryz.prog 12 [] (gb true) := by
  refine PCall.val (by simp) fun H => ?_
  refine MCall.of mixed S_gerundlaw11_alive_ok ?_
  simp (disch := omega) only [↓wr, ↓reduceIte, wq, eq_self, ne_eq, implies_true, oneV, intOp, goI, splice, sBuild, fillE, nilB, isNil, Nat.reduceEqDiff, Nat.reduceAdd, Nat.reduceLT, Nat.reduceLeDiff, Int.reduceNeg, Int.reduceToNat, reduceCtorEq, decide_true, decide_false, S_gerundlaw11_alive]
  intro n1 hn1
  try simp (disch := omega) only [↓wr, ↓reduceIte, wq, eq_self, ne_eq, implies_true, oneV, intOp, goI, splice, sBuild, fillE, nilB, isNil, Nat.reduceEqDiff, Nat.reduceAdd, Nat.reduceLT, Nat.reduceLeDiff, Int.reduceNeg, Int.reduceToNat, reduceCtorEq, decide_true, decide_false]
  generalize t1 : text1.map (fun x => [gy x]) = es1
  have t1' := t1
  simp only [text1, List.map_cons, List.map_nil] at t1'
  rw [t1']
  refine oldConvSame (id := n1) (len := 46) Tryz.underlying53 Tryz.underlying5 rfl (by omega) (by simp only [View.set, if_true]; rfl) ?_
  simp (disch := omega) only [↓wr, ↓reduceIte, wq, eq_self, ne_eq, implies_true, oneV, intOp, goI, splice, sBuild, fillE, nilB, isNil, Nat.reduceEqDiff, Nat.reduceAdd, Nat.reduceLT, Nat.reduceLeDiff, Int.reduceNeg, Int.reduceToNat, reduceCtorEq, decide_true, decide_false]
  refine CallG.lendN h1 (by kernel_rfl) ⟨lent_bytes text1 (by simp only [View.set, if_true, t1]), trivial⟩ ?_
  clear t1 t1' hn1
  generalize H.set n1 (AObj.arr 1 es1) = H1
  clear H
  simp (disch := omega) only [↓wr, ↓reduceIte, wq, eq_self, ne_eq, implies_true, oneV, intOp, goI, splice, sBuild, fillE, nilB, isNil, Nat.reduceEqDiff, Nat.reduceAdd, Nat.reduceLT, Nat.reduceLeDiff, Int.reduceNeg, Int.reduceToNat, reduceCtorEq, decide_true, decide_false, readOut, encG, encS]
  intro n2 hn2
  refine CallG.pure c1.pure (by kernel_rfl) ?_
  simp (disch := omega) only [↓wr, ↓reduceIte, wq, eq_self, ne_eq, implies_true, oneV, intOp, goI, splice, sBuild, fillE, nilB, isNil, Nat.reduceEqDiff, Nat.reduceAdd, Nat.reduceLT, Nat.reduceLeDiff, Int.reduceNeg, Int.reduceToNat, reduceCtorEq, decide_true, decide_false, outR, encG, encS]
  intro n3 hn3
  have d32 := (dead_if hn3 arr_live).1
  try simp (disch := omega) only [↓wr, ↓reduceIte, wq, eq_self, ne_eq, implies_true, oneV, intOp, goI, splice, sBuild, fillE, nilB, isNil, Nat.reduceEqDiff, Nat.reduceAdd, Nat.reduceLT, Nat.reduceLeDiff, Int.reduceNeg, Int.reduceToNat, reduceCtorEq, decide_true, decide_false]
  intro n4 hn4
  have d43 := (dead_if hn4 arr_live).1
  have d42 := (dead_if (dead_if (dead_if hn4 arr_live).2 arr_live).2 arr_live).1
  try simp (disch := omega) only [↓wr, ↓reduceIte, wq, eq_self, ne_eq, implies_true, oneV, intOp, goI, splice, sBuild, fillE, nilB, isNil, Nat.reduceEqDiff, Nat.reduceAdd, Nat.reduceLT, Nat.reduceLeDiff, Int.reduceNeg, Int.reduceToNat, reduceCtorEq, decide_true, decide_false]
  generalize t1 : text2.map (fun x => [gy x]) = es2
  have t1' := t1
  simp only [text2, List.map_cons, List.map_nil] at t1'
  rw [t1']
  refine oldConvSame (id := n4) (len := 22) Tryz.underlying53 Tryz.underlying5 rfl (by omega) (by simp only [View.set, if_true]; rfl) ?_
  simp (disch := omega) only [↓wr, ↓reduceIte, wq, eq_self, ne_eq, implies_true, oneV, intOp, goI, splice, sBuild, fillE, nilB, isNil, Nat.reduceEqDiff, Nat.reduceAdd, Nat.reduceLT, Nat.reduceLeDiff, Int.reduceNeg, Int.reduceToNat, reduceCtorEq, decide_true, decide_false]
  refine CallG.lendN h2 (by kernel_rfl) ⟨lent_bytes text2 (by simp only [View.set, if_true, t1]), trivial⟩ ?_
  clear t1 t1'
  simp (disch := omega) only [↓wr, ↓reduceIte, wq, eq_self, ne_eq, implies_true, oneV, intOp, goI, splice, sBuild, fillE, nilB, isNil, Nat.reduceEqDiff, Nat.reduceAdd, Nat.reduceLT, Nat.reduceLeDiff, Int.reduceNeg, Int.reduceToNat, reduceCtorEq, decide_true, decide_false, readOut, encG, encS]
  intro n5 hn5
  refine CallG.pure c2.pure (by kernel_rfl) ?_
  simp (disch := omega) only [↓wr, ↓reduceIte, wq, eq_self, ne_eq, implies_true, oneV, intOp, goI, splice, sBuild, fillE, nilB, isNil, Nat.reduceEqDiff, Nat.reduceAdd, Nat.reduceLT, Nat.reduceLeDiff, Int.reduceNeg, Int.reduceToNat, reduceCtorEq, decide_true, decide_false, outR, encG, encS]
  intro n6 hn6
  try simp (disch := omega) only [↓wr, ↓reduceIte, wq, eq_self, ne_eq, implies_true, oneV, intOp, goI, splice, sBuild, fillE, nilB, isNil, Nat.reduceEqDiff, Nat.reduceAdd, Nat.reduceLT, Nat.reduceLeDiff, Int.reduceNeg, Int.reduceToNat, reduceCtorEq, decide_true, decide_false, noG, List.map_nil]
  refine CallG.lendN c3 (by kernel_rfl) ⟨lent_noG, trivial⟩ ?_
  simp (disch := omega) only [↓wr, ↓reduceIte, wq, eq_self, ne_eq, implies_true, oneV, intOp, goI, splice, sBuild, fillE, nilB, isNil, Nat.reduceEqDiff, Nat.reduceAdd, Nat.reduceLT, Nat.reduceLeDiff, Int.reduceNeg, Int.reduceToNat, reduceCtorEq, decide_true, decide_false, outR, encG, encS]
  intro n7 hn7
  have d54 := (dead_if hn5 arr_live).1
  have hn5 := (dead_if hn5 arr_live).2
  have d53 := (dead_if hn5 arr_live).1
  have hn5 := (dead_if (dead_if hn5 arr_live).2 arr_live).2
  have d52 := (dead_if hn5 arr_live).1
  have d65 := (dead_if hn6 arr_live).1
  have hn6 := (dead_if (dead_if hn6 arr_live).2 arr_live).2
  have d64 := (dead_if hn6 arr_live).1
  have hn6 := (dead_if hn6 arr_live).2
  have d63 := (dead_if hn6 arr_live).1
  have hn6 := (dead_if (dead_if hn6 arr_live).2 arr_live).2
  have d62 := (dead_if hn6 arr_live).1
  have d76 := (dead_if hn7 arr_live).1
  have hn7 := (dead_if (dead_if hn7 arr_live).2 arr_live).2
  have d75 := (dead_if hn7 arr_live).1
  have hn7 := (dead_if (dead_if hn7 arr_live).2 arr_live).2
  have d74 := (dead_if hn7 arr_live).1
  have hn7 := (dead_if hn7 arr_live).2
  have d73 := (dead_if hn7 arr_live).1
  have hn7 := (dead_if (dead_if hn7 arr_live).2 arr_live).2
  have d72 := (dead_if hn7 arr_live).1
  try simp (disch := omega) only [↓wr, ↓reduceIte, wq, eq_self, ne_eq, implies_true, oneV, intOp, goI, splice, sBuild, fillE, nilB, isNil, Nat.reduceEqDiff, Nat.reduceAdd, Nat.reduceLT, Nat.reduceLeDiff, Int.reduceNeg, Int.reduceToNat, reduceCtorEq, decide_true, decide_false, d32, d43, d42, d54, d53, d52, d65, d64, d63, d62, d76, d75, d74, d73, d72, d32.symm, d43.symm, d42.symm, d54.symm, d53.symm, d52.symm, d65.symm, d64.symm, d63.symm, d62.symm, d76.symm, d75.symm, d74.symm, d73.symm, d72.symm]
  repeat' (first | (refine GoB.dec (fun _ => ?_) (fun _ => ?_)) | (refine GoB.eq (fun _ => ?_) (fun _ => ?_)) | (refine GoB.ne (fun _ => ?_) (fun _ => ?_)) | (refine GoB.split (fun _ => ?_) (fun _ => ?_)) | (simp (disch := omega) only [↓wr, ↓reduceIte, wq, eq_self, ne_eq, implies_true, oneV, intOp, goI, splice, sBuild, fillE, nilB, isNil, Nat.reduceEqDiff, Nat.reduceAdd, Nat.reduceLT, Nat.reduceLeDiff, Int.reduceNeg, Int.reduceToNat, reduceCtorEq, decide_true, decide_false, d32, d43, d42, d54, d53, d52, d65, d64, d63, d62, d76, d75, d74, d73, d72, d32.symm, d43.symm, d42.symm, d54.symm, d53.symm, d52.symm, d65.symm, d64.symm, d63.symm, d62.symm, d76.symm, d75.symm, d74.symm, d73.symm, d72.symm, encI]))
  all_goals first | (exfalso; omega) | skip
  intro n8 hn8
  have d87 := (dead_if hn8 arr_live).1
  have hn8 := (dead_if (dead_if hn8 arr_live).2 arr_live).2
  have d86 := (dead_if hn8 arr_live).1
  have hn8 := (dead_if (dead_if hn8 arr_live).2 arr_live).2
  have d85 := (dead_if hn8 arr_live).1
  have hn8 := (dead_if (dead_if hn8 arr_live).2 arr_live).2
  have d84 := (dead_if hn8 arr_live).1
  have hn8 := (dead_if hn8 arr_live).2
  have d83 := (dead_if hn8 arr_live).1
  have hn8 := (dead_if (dead_if hn8 arr_live).2 arr_live).2
  have d82 := (dead_if hn8 arr_live).1
  simp (disch := omega) only [↓wr, ↓reduceIte, wq, eq_self, ne_eq, implies_true, oneV, intOp, goI, splice, sBuild, fillE, nilB, isNil, Nat.reduceEqDiff, Nat.reduceAdd, Nat.reduceLT, Nat.reduceLeDiff, Int.reduceNeg, Int.reduceToNat, reduceCtorEq, decide_true, decide_false, d32, d43, d42, d54, d53, d52, d65, d64, d63, d62, d76, d75, d74, d73, d72, d32.symm, d43.symm, d42.symm, d54.symm, d53.symm, d52.symm, d65.symm, d64.symm, d63.symm, d62.symm, d76.symm, d75.symm, d74.symm, d73.symm, d72.symm, encI]
  refine CallG.lendAs (fun H => H n2 = .arr 4 [encG g1] ∧ H n3 = .arr 4 [encG r1]) (pc_Ints [1, 2] [1, 2] (by unfold Short; decide)) (by kernel_rfl) (.val _) ⟨Lent.tree (encI_tree [1, 2]), Lent.own (.inr ⟨n8, rfl, by simp only [View.set, if_true]; rfl⟩) (by simp; exact ⟨.val _, .val _⟩), trivial⟩ (by
    simp [View.set, d32, d43, d42, d54, d53, d52, d65, d64, d63, d62, d76, d75, d74, d73, d72, d32.symm, d43.symm, d42.symm, d54.symm, d53.symm, d52.symm, d65.symm, d64.symm, d63.symm, d62.symm, d76.symm, d75.symm, d74.symm, d73.symm, d72.symm, d83.symm, d82.symm, encG, encS]) ?_
  rintro H2 ⟨f2, f3⟩
  simp only [encG, encS] at f2 f3
  simp (disch := omega) only [↓wr, ↓reduceIte, wq, eq_self, ne_eq, implies_true, oneV, intOp, goI, splice, sBuild, fillE, nilB, isNil, Nat.reduceEqDiff, Nat.reduceAdd, Nat.reduceLT, Nat.reduceLeDiff, Int.reduceNeg, Int.reduceToNat, reduceCtorEq, decide_true, decide_false, f2, f3]
  refine GoB.split (fun _ => ?_) (fun e => absurd e (by decide))
  simp (disch := omega) only [↓wr, ↓reduceIte, wq, eq_self, ne_eq, implies_true, oneV, intOp, goI, splice, sBuild, fillE, nilB, isNil, Nat.reduceEqDiff, Nat.reduceAdd, Nat.reduceLT, Nat.reduceLeDiff, Int.reduceNeg, Int.reduceToNat, reduceCtorEq, decide_true, decide_false, f2, f3]
  refine CallG.pure (pn_tNullable g1 k1 s1).pure (by kernel_rfl) ?_
  rw [e1]
  simp (disch := omega) only [↓wr, ↓reduceIte, wq, eq_self, ne_eq, implies_true, oneV, intOp, goI, splice, sBuild, fillE, nilB, isNil, Nat.reduceEqDiff, Nat.reduceAdd, Nat.reduceLT, Nat.reduceLeDiff, Int.reduceNeg, Int.reduceToNat, reduceCtorEq, decide_true, decide_false, f2, f3, encB]
  intro n9 hn9
  try simp (disch := omega) only [↓wr, ↓reduceIte, wq, eq_self, ne_eq, implies_true, oneV, intOp, goI, splice, sBuild, fillE, nilB, isNil, Nat.reduceEqDiff, Nat.reduceAdd, Nat.reduceLT, Nat.reduceLeDiff, Int.reduceNeg, Int.reduceToNat, reduceCtorEq, decide_true, decide_false, f2, f3, encB]
  refine CallG.lendAs (fun H => H n2 = .arr 4 [encG g1] ∧ H n3 = .arr 4 [encG r1]) (pc_Bools [true, false, false] [true, false, false] (by unfold Short; decide)) (by kernel_rfl) (.val _) ⟨Lent.tree (encB_tree [true, false, false]), lent_bools (is := [true, false, false]) (by simp only [View.set, if_true]; rfl) rfl, trivial⟩ (by
    have e2 : n2 ≠ n9 := by rintro rfl; rw [f2] at hn9; simp at hn9
    have e3 : n3 ≠ n9 := by rintro rfl; rw [f3] at hn9; simp at hn9
    simp [View.set, e2, e3, f2, f3, encG, encS]) ?_
  clear hn9 f2 f3 H2
  rintro H2 ⟨f2, f3⟩
  simp only [encG, encS] at f2 f3
  simp (disch := omega) only [↓wr, ↓reduceIte, wq, eq_self, ne_eq, implies_true, oneV, intOp, goI, splice, sBuild, fillE, nilB, isNil, Nat.reduceEqDiff, Nat.reduceAdd, Nat.reduceLT, Nat.reduceLeDiff, Int.reduceNeg, Int.reduceToNat, reduceCtorEq, decide_true, decide_false, f2, f3]
  try (refine GoB.split (fun _ => ?_) (fun e => absurd e (by decide)))
  simp (disch := omega) only [↓wr, ↓reduceIte, wq, eq_self, ne_eq, implies_true, oneV, intOp, goI, splice, sBuild, fillE, nilB, isNil, Nat.reduceEqDiff, Nat.reduceAdd, Nat.reduceLT, Nat.reduceLeDiff, Int.reduceNeg, Int.reduceToNat, reduceCtorEq, decide_true, decide_false, f2, f3]
  refine CallG.pure (pn_tProductive g1 k1 s1).pure (by kernel_rfl) ?_
  rw [e2]
  simp (disch := omega) only [↓wr, ↓reduceIte, wq, eq_self, ne_eq, implies_true, oneV, intOp, goI, splice, sBuild, fillE, nilB, isNil, Nat.reduceEqDiff, Nat.reduceAdd, Nat.reduceLT, Nat.reduceLeDiff, Int.reduceNeg, Int.reduceToNat, reduceCtorEq, decide_true, decide_false, f2, f3, encB]
  intro n10 hn10
  try simp (disch := omega) only [↓wr, ↓reduceIte, wq, eq_self, ne_eq, implies_true, oneV, intOp, goI, splice, sBuild, fillE, nilB, isNil, Nat.reduceEqDiff, Nat.reduceAdd, Nat.reduceLT, Nat.reduceLeDiff, Int.reduceNeg, Int.reduceToNat, reduceCtorEq, decide_true, decide_false, f2, f3, encB]
  refine CallG.lendAs (fun H => H n2 = .arr 4 [encG g1] ∧ H n3 = .arr 4 [encG r1]) (pc_Bools [true, false, true] [true, false, true] (by unfold Short; decide)) (by kernel_rfl) (.val _) ⟨Lent.tree (encB_tree [true, false, true]), lent_bools (is := [true, false, true]) (by simp only [View.set, if_true]; rfl) rfl, trivial⟩ (by
    have e2 : n2 ≠ n10 := by rintro rfl; rw [f2] at hn10; simp at hn10
    have e3 : n3 ≠ n10 := by rintro rfl; rw [f3] at hn10; simp at hn10
    simp [View.set, e2, e3, f2, f3, encG, encS]) ?_
  clear hn10 f2 f3 H2
  rintro H2 ⟨f2, f3⟩
  simp only [encG, encS] at f2 f3
  simp (disch := omega) only [↓wr, ↓reduceIte, wq, eq_self, ne_eq, implies_true, oneV, intOp, goI, splice, sBuild, fillE, nilB, isNil, Nat.reduceEqDiff, Nat.reduceAdd, Nat.reduceLT, Nat.reduceLeDiff, Int.reduceNeg, Int.reduceToNat, reduceCtorEq, decide_true, decide_false, f2, f3]
  try (refine GoB.split (fun _ => ?_) (fun e => absurd e (by decide)))
  simp (disch := omega) only [↓wr, ↓reduceIte, wq, eq_self, ne_eq, implies_true, oneV, intOp, goI, splice, sBuild, fillE, nilB, isNil, Nat.reduceEqDiff, Nat.reduceAdd, Nat.reduceLT, Nat.reduceLeDiff, Int.reduceNeg, Int.reduceToNat, reduceCtorEq, decide_true, decide_false, f2, f3]
  refine CallG.pure (pn_tReachable g1 k1 s1).pure (by kernel_rfl) ?_
  rw [e3]
  simp (disch := omega) only [↓wr, ↓reduceIte, wq, eq_self, ne_eq, implies_true, oneV, intOp, goI, splice, sBuild, fillE, nilB, isNil, Nat.reduceEqDiff, Nat.reduceAdd, Nat.reduceLT, Nat.reduceLeDiff, Int.reduceNeg, Int.reduceToNat, reduceCtorEq, decide_true, decide_false, f2, f3, encB]
  intro n11 hn11
  try simp (disch := omega) only [↓wr, ↓reduceIte, wq, eq_self, ne_eq, implies_true, oneV, intOp, goI, splice, sBuild, fillE, nilB, isNil, Nat.reduceEqDiff, Nat.reduceAdd, Nat.reduceLT, Nat.reduceLeDiff, Int.reduceNeg, Int.reduceToNat, reduceCtorEq, decide_true, decide_false, f2, f3, encB]
  refine CallG.lendAs (fun H => H n2 = .arr 4 [encG g1] ∧ H n3 = .arr 4 [encG r1]) (pc_Bools [true, false, false] [true, false, false] (by unfold Short; decide)) (by kernel_rfl) (.val _) ⟨Lent.tree (encB_tree [true, false, false]), lent_bools (is := [true, false, false]) (by simp only [View.set, if_true]; rfl) rfl, trivial⟩ (by
    have e2 : n2 ≠ n11 := by rintro rfl; rw [f2] at hn11; simp at hn11
    have e3 : n3 ≠ n11 := by rintro rfl; rw [f3] at hn11; simp at hn11
    simp [View.set, e2, e3, f2, f3, encG, encS]) ?_
  clear hn11 f2 f3 H2
  rintro H2 ⟨f2, f3⟩
  simp only [encG, encS] at f2 f3
  simp (disch := omega) only [↓wr, ↓reduceIte, wq, eq_self, ne_eq, implies_true, oneV, intOp, goI, splice, sBuild, fillE, nilB, isNil, Nat.reduceEqDiff, Nat.reduceAdd, Nat.reduceLT, Nat.reduceLeDiff, Int.reduceNeg, Int.reduceToNat, reduceCtorEq, decide_true, decide_false, f2, f3]
  try (refine GoB.split (fun _ => ?_) (fun e => absurd e (by decide)))
  simp (disch := omega) only [↓wr, ↓reduceIte, wq, eq_self, ne_eq, implies_true, oneV, intOp, goI, splice, sBuild, fillE, nilB, isNil, Nat.reduceEqDiff, Nat.reduceAdd, Nat.reduceLT, Nat.reduceLeDiff, Int.reduceNeg, Int.reduceToNat, reduceCtorEq, decide_true, decide_false, f2, f3]
  refine CallG.pure (pc_tIs r1 k2 s2) (by kernel_rfl) ?_
  rw [i1]
  simp (disch := omega) only [↓wr, ↓reduceIte, wq, eq_self, ne_eq, implies_true, oneV, intOp, goI, splice, sBuild, fillE, nilB, isNil, Nat.reduceEqDiff, Nat.reduceAdd, Nat.reduceLT, Nat.reduceLeDiff, Int.reduceNeg, Int.reduceToNat, reduceCtorEq, decide_true, decide_false, f2, f3]
  refine CallG.pure (pc_tIs g1 k1 s1) (by kernel_rfl) ?_
  rw [i2]
  simp (disch := omega) only [↓wr, ↓reduceIte, wq, eq_self, ne_eq, implies_true, oneV, intOp, goI, splice, sBuild, fillE, nilB, isNil, Nat.reduceEqDiff, Nat.reduceAdd, Nat.reduceLT, Nat.reduceLeDiff, Int.reduceNeg, Int.reduceToNat, reduceCtorEq, decide_true, decide_false, f2, f3]

theorem pc_alive : PCall Tryz.prog 12 [] (gb true) :=
  pc_alive_of gram1 gram1r gram2 gram1_ok gram1r_ok gram1_small gram1r_small read1 read2 tRed1 tRed2 tRed3 (by rfl) (by rfl) (by rfl) g1f g1t g1r is2 is1

end Gv

/-
  The law on what the functions tell.
  Conditions: lists that are no longer than an int says, numbers that are ints.
-/
set_option linter.unusedSimpArgs false
set_option maxRecDepth 100000
namespace Gv
open Go Go.Proofs

def S_gerundlaw11_TrimTells : SF := ⟨.seq (.region false [⟨none, [((some 1), .op (.frz (.tmp 0))), ((some 2), .op (.mov (.val (.val (.bool false)))))]⟩]) <|
  .seq (.seq (.region false [⟨none, [((some 3), .call (.val (.fn 12 [] [])) []), ((some 4), .op (.not (.tmp 3)))]⟩]) <|
  .cond (.tmp 4) (.seq (.region false [⟨none, [((some 2), .op (.mov (.val (.val (.bool false)))))]⟩]) <|
  .ret) (.skip)) <|
  .seq (.seq (.region false [⟨none, [((some 5), .op (.load (some 4) (.tmp 1))), ((some 6), .call (.val (.fn 13 [] [])) [(.tmp 5)])]⟩]) <|
  .cond (.tmp 6) (.seq (.region false [⟨none, [((some 2), .op (.mov (.val (.val (.bool true)))))]⟩]) <|
  .ret) (.skip)) <|
  .seq (.region true [⟨none, [((some 7), .op (.load (some 4) (.tmp 1))), ((some 8), .call (.val (.fn 15 [] [])) [(.tmp 7)]), ((some 9), .op (.load (some 4) (.tmp 1))), ((some 10), .call (.val (.fn 16 [] [])) [(.tmp 9)]), ((some 11), .call (.val (.fn 14 [] [])) [(.tmp 8), (.tmp 10)]), ((some 12), .op (.mov (.tmp 11)))]⟩, ⟨(some (12, true)), [((some 13), .op (.load (some 4) (.tmp 1))), ((some 14), .call (.val (.fn 17 [] [])) [(.tmp 13)]), ((some 15), .op (.load (some 4) (.tmp 1))), ((some 16), .call (.val (.fn 18 [] [])) [(.tmp 15)]), ((some 17), .call (.val (.fn 14 [] [])) [(.tmp 14), (.tmp 16)])]⟩, ⟨none, [((some 18), .op (.pick (.tmp 12) (.tmp 17) (.val (.val (.bool false))))), ((some 19), .op (.mov (.tmp 18)))]⟩, ⟨(some (19, true)), [((some 20), .op (.load (some 4) (.tmp 1))), ((some 21), .call (.val (.fn 19 [] [])) [(.tmp 20)]), ((some 22), .op (.load (some 4) (.tmp 1))), ((some 23), .call (.val (.fn 20 [] [])) [(.tmp 22)]), ((some 24), .call (.val (.fn 14 [] [])) [(.tmp 21), (.tmp 23)])]⟩, ⟨none, [((some 25), .op (.pick (.tmp 19) (.tmp 24) (.val (.val (.bool false))))), ((some 26), .op (.mov (.tmp 25)))]⟩, ⟨(some (26, true)), [((some 27), .op (.load (some 4) (.tmp 1))), ((some 28), .call (.val (.fn 21 [] [])) [(.tmp 27)]), ((some 29), .op (.load (some 4) (.tmp 1))), ((some 30), .call (.val (.fn 22 [] [])) [(.tmp 29)]), ((some 31), .op (.beq true (.tmp 28) (.tmp 30)))]⟩, ⟨none, [((some 32), .op (.pick (.tmp 26) (.tmp 31) (.val (.val (.bool false))))), ((some 2), .op (.mov (.tmp 32)))]⟩]) <|
  .ret,
  [.tmp 2], 33⟩
theorem S_gerundlaw11_TrimTells_ok : compF Tryz.prog 3 [1] = some S_gerundlaw11_TrimTells := by kernel_rfl


theorem great_small {g : Gram} (e : greatG g = false) : g.Small := by
  simp only [greatG, Bool.or_eq_false_iff, decide_eq_false_iff_not] at e
  exact ⟨by omega⟩
theorem short_grown {g : Gram} (hg : g.Ok) (t : Bool) : Short (grown09 g t) := by
  by_cases h : right09 g = true
  · have := hg.nons; unfold Short at this ⊢; rw [grown09_len h]; exact this
  · unfold Short; rw [grown09, if_neg h]; decide
theorem short_reach {g : Gram} (hg : g.Ok) : Short (reach09 g) := by
  by_cases h : right09 g = true
  · have := hg.nons; unfold Short at this ⊢; rw [reach09_len h]; exact this
  · unfold Short; rw [reach09, if_neg h]; decide
theorem pc_great (g : Gram) : PCall Tryz.prog 13 [.agg (encG g)] (gb (greatG g)) := PCall.val (gg_tree g) fun H => (mc_Great g H).mono fun _ _ h => h.1

set_option maxHeartbeats 2000000 in
theorem pc_TrimTells (g : Gram) (hg : g.Ok) : PCall Tryz.prog 3 [.agg (encG g)] (gb true) := by
  refine PCall.val (gg_tree g) fun H => ?_
  refine MCall.of mixed S_gerundlaw11_TrimTells_ok ?_
  simp (disch := omega) only [↓wr, ↓reduceIte, wq, eq_self, ne_eq, implies_true, oneV, intOp, goI, splice, sBuild, fillE, nilB, isNil, Nat.reduceEqDiff, Nat.reduceAdd, Nat.reduceLT, Nat.reduceLeDiff, Int.reduceNeg, Int.reduceToNat, reduceCtorEq, decide_true, decide_false, S_gerundlaw11_TrimTells, encG, encS]
  refine CallG.pure pc_alive (by kernel_rfl) ?_
  simp (disch := omega) only [↓wr, ↓reduceIte, wq, eq_self, ne_eq, implies_true, oneV, intOp, goI, splice, sBuild, fillE, nilB, isNil, Nat.reduceEqDiff, Nat.reduceAdd, Nat.reduceLT, Nat.reduceLeDiff, Int.reduceNeg, Int.reduceToNat, reduceCtorEq, decide_true, decide_false, encG, encS]
  refine CallG.pure (pc_great g) (by kernel_rfl) ?_
  simp (disch := omega) only [↓wr, ↓reduceIte, wq, eq_self, ne_eq, implies_true, oneV, intOp, goI, splice, sBuild, fillE, nilB, isNil, Nat.reduceEqDiff, Nat.reduceAdd, Nat.reduceLT, Nat.reduceLeDiff, Int.reduceNeg, Int.reduceToNat, reduceCtorEq, decide_true, decide_false]
  refine GoB.split (fun e => ?_) (fun e => ?_)
  · simp (disch := omega) only [↓wr, ↓reduceIte, wq, eq_self, ne_eq, implies_true, oneV, intOp, goI, splice, sBuild, fillE, nilB, isNil, Nat.reduceEqDiff, Nat.reduceAdd, Nat.reduceLT, Nat.reduceLeDiff, Int.reduceNeg, Int.reduceToNat, reduceCtorEq, decide_true, decide_false]
  · have hs : g.Small := great_small e
    simp (disch := omega) only [↓wr, ↓reduceIte, wq, eq_self, ne_eq, implies_true, oneV, intOp, goI, splice, sBuild, fillE, nilB, isNil, Nat.reduceEqDiff, Nat.reduceAdd, Nat.reduceLT, Nat.reduceLeDiff, Int.reduceNeg, Int.reduceToNat, reduceCtorEq, decide_true, decide_false, encG, encS]
    repeat' (first | (refine GoB.dec (fun _ => ?_) (fun _ => ?_)) | (refine GoB.eq (fun _ => ?_) (fun _ => ?_)) | (refine GoB.ne (fun _ => ?_) (fun _ => ?_)) | (refine GoB.split (fun _ => ?_) (fun _ => ?_)) | (refine CallG.pure (pn_tNullable g hg hs).pure (by kernel_rfl) ?_) | (refine CallG.pure (pc_Nullable11 g hg) (by kernel_rfl) ?_) | (refine CallG.pure (pn_tProductive g hg hs).pure (by kernel_rfl) ?_) | (refine CallG.pure (pc_Productive11 g hg) (by kernel_rfl) ?_) | (refine CallG.pure (pn_tReachable g hg hs).pure (by kernel_rfl) ?_) | (refine CallG.pure (pn_Reachable11 g hg).pure (by kernel_rfl) ?_) | (refine CallG.pure (pc_tIs g hg hs) (by kernel_rfl) ?_) | (refine CallG.pure (pc_gIs g hg) (by kernel_rfl) ?_) | (refine CallG.pure (pc_Bools _ _ (short_grown hg false)) (by kernel_rfl) ?_) | (refine CallG.pure (pc_Bools _ _ (short_grown hg true)) (by kernel_rfl) ?_) | (refine CallG.pure (pc_Bools _ _ (short_reach hg)) (by kernel_rfl) ?_) | (simp (disch := omega) only [↓wr, ↓reduceIte, wq, eq_self, ne_eq, implies_true, oneV, intOp, goI, splice, sBuild, fillE, nilB, isNil, Nat.reduceEqDiff, Nat.reduceAdd, Nat.reduceLT, Nat.reduceLeDiff, Int.reduceNeg, Int.reduceToNat, reduceCtorEq, decide_true, decide_false, encG, encS]))
    all_goals simp_all
end Gv

/-
  What reads as data is a tree of the machine's.
  Conditions: none beyond those that each lemma names.
-/
set_option linter.unusedSimpArgs false
namespace Gv
open Go

/-- The cells are as these values, wherever old blocks are known. -/
def CRel (hp : Array Obj) (cs : List Value) (vs : List V) : Prop :=
  vs.length = cs.length ∧ ∀ μ i, i < vs.length → VRel (fun b => b < hp.size) μ hp (vs.getD i .any) (cs.getD i undef)

/-- All weights are within what a machine reaches. -/
def Wt {H : Type} (P : Program) (t : TypeId) (d : DataW H) : Prop := ∀ n ∈ d.weights P t, n ≤ reachBytes

/-- What reads as data of this type is one of these. -/
def Rdr (P : Program) (t : TypeId) {α : Type} (f : α → List V) (ok : α → Prop) : Prop :=
  ∀ {H : Type} (enc : TypeId × Value → H) (w : World) (base : Nat) (sp : Nat → Bool) (held : Bool) (fuel : Nat) (cs : List Value) (x : DataW H × List MemPlace),
    DataW.trod enc P w base sp held fuel t cs = some x → Wt P t x.1 → ∃ a, ok a ∧ CRel w.heap cs (f a)

theorem crel_one {hp : Array Obj} {c : Value} {v : V} (h : ∀ μ, VRel (fun b => b < hp.size) μ hp v c) : CRel hp [c] [v] := by
  refine ⟨rfl, fun μ i hi => ?_⟩
  match i, hi with
  | 0, _ => exact h μ

theorem rd_int {P : Program} {t : TypeId} {k : IntKind} (ht : P.underlying t = some (.int k)) : Rdr P t (fun n => [.val (.int k n)]) (fun n => (Lit.int k n).wf = true) := by
  intro H enc w base sp held fuel cs x h _
  obtain ⟨n, rfl, _, hw⟩ := DataW.trod_int ht h
  exact ⟨n, hw, crel_one fun μ => .val _ rfl⟩

theorem rd_string {P : Program} {t : TypeId} (ht : P.underlying t = some .string) : Rdr P t (fun s => [.val (.string s)]) (fun _ => True) := by
  intro H enc w base sp held fuel cs x h _
  obtain ⟨s, rfl, _, _⟩ := DataW.trod_string ht h
  exact ⟨s, trivial, crel_one fun μ => .val _ rfl⟩

theorem cells_at {w : World} {base : Nat} {a : Addr} {n : Nat} {cs : List Value} (h : w.cells? base a n = some cs) : cs.length = n ∧ ∀ i, i < n → w.cell? (a.add i) = some (cs.getD i undef) := by
  obtain ⟨_, h2, h3⟩ := World.cells?_some h
  refine ⟨h2, fun i hi => ?_⟩
  rw [h3 i hi, List.getD_eq_getElem?_getD, List.getElem?_eq_getElem (by omega)]
  rfl

theorem cell_none {w : World} {a : Addr} {v : Value} (h : w.cell? a = some v) : a.spot = none ∧ a.block < w.heap.size := by
  unfold World.cell? at h
  split at h
  · rename_i c _ _ hb
    split at h
    · simp at h
    · rename_i hs
      exact ⟨by simpa using hs, (Array.getElem?_eq_some_iff.1 hb).1⟩
  · simp at h

theorem wt_all {H : Type} {P : Program} {e : TypeId} : ∀ {l : List (DataW H)}, (∀ n ∈ DataW.weightsAll P e l, n ≤ reachBytes) → ∀ d ∈ l, Wt P e d
  | [], _, d, hd => by simp at hd
  | x :: l, h, d, hd => by
    simp only [DataW.weightsAll, List.mem_append] at h
    rcases List.mem_cons.1 hd with rfl | hd
    · exact fun n hn => h n (.inl hn)
    · exact wt_all (fun n hn => h n (.inr hn)) d hd

theorem wt_slice {H : Type} {P : Program} {t e : TypeId} {elems spare : List (DataW H)} (ht : P.underlying t = some (.slice e)) (h : Wt P t (.slice elems spare)) :
    (elems.length + spare.length) * P.bytesOf e ≤ reachBytes ∧ ∀ d ∈ elems, Wt P e d := by
  unfold Wt at h
  unfold DataW.weights at h
  rw [ht] at h
  simp only [List.mem_cons, List.mem_append] at h
  exact ⟨h _ (.inl rfl), wt_all fun n hn => h n (.inr (.inl hn))⟩

theorem wt_struct {H : Type} {P : Program} {t : TypeId} {fs : Array Field} {parts : List (DataW H)} (ht : P.underlying t = some (.struct fs)) (h : Wt P t (.agg parts)) {j : Nat} {f : Field} {d : DataW H} (hf : fs[j]? = some f) (hd : parts[j]? = some d) : Wt P f.type d := by
  intro n hn
  refine h n ?_
  unfold DataW.weights
  rw [ht]
  exact DataW.weights_mem_each (j := j) (t := f.type) (by simp [hf]) hd n hn

/-- A list of choices. -/
theorem choices {α : Type} {φ : Nat → α → Prop} : ∀ (n : Nat), (∀ i, i < n → ∃ a, φ i a) → ∃ l : List α, l.length = n ∧ ∀ i (hi : i < l.length), φ i l[i]
  | 0, _ => ⟨[], rfl, fun i hi => by simp at hi⟩
  | n + 1, h => by
    obtain ⟨l, hl, hφ⟩ := choices n fun i hi => h i (by omega)
    obtain ⟨a, ha⟩ := h n (by omega)
    refine ⟨l ++ [a], by simp [hl], fun i hi => ?_⟩
    by_cases e : i < l.length
    · rw [List.getElem_append_left e]; exact hφ i e
    · have : i = n := by simp at hi; omega
      subst this
      rw [List.getElem_append_right (by omega)]
      simp only [hl, Nat.sub_self, List.getElem_cons_zero]; exact ha

theorem rd_slice {P : Program} {t e : TypeId} {α : Type} {f : α → List V} {ok : α → Prop} (ht : P.underlying t = some (.slice e)) (hc : 0 < P.cellsOf e) (hb : 0 < P.bytesOf e) (he : Rdr P e f ok) :
    Rdr P t (fun l : List α => [.fro (l.map f)]) (fun l => l.length < 4611686018427387904 ∧ ∀ a ∈ l, ok a) := by
  intro H enc w base sp held fuel cs x h hw
  rcases DataW.trod_slice ht h with ⟨rfl, rfl⟩ | ⟨a, len, cap, elems, rest, n, _, rfl, rfl, hba, hl, hm, hlen, hel, _, _⟩
  · exact ⟨[], ⟨by simp, by simp⟩, crel_one fun μ => .fro0 none 0 (by simp)⟩
  obtain ⟨hw1, hw2⟩ := wt_slice ht hw
  simp only [List.length_map] at hw1
  have hlt : len < 4611686018427387904 := by
    have h1 : len * 1 ≤ (elems.length + rest.length) * P.bytesOf e := Nat.mul_le_mul (by omega) hb
    unfold reachBytes at hw1
    omega
  have each : ∀ i, i < len → ∃ y, ok y ∧ ∃ ci, w.cells? base (a.add (i * P.cellsOf e)) (P.cellsOf e) = some ci ∧ CRel w.heap ci (f y) := by
    intro i hi
    have h1 := hel i hi
    have h2 : elems[i]? = some (elems[i]'(by omega)) := List.getElem?_eq_getElem (by omega)
    have hmem : elems[i]'(by omega) ∈ elems := List.getElem_mem _
    rw [h2, Option.bind_eq_some_iff] at h1
    obtain ⟨ci, h3, h4⟩ := h1
    obtain ⟨y, h5, h6⟩ := he enc w base sp held n ci _ h4 (hw2 _ (List.mem_map.2 ⟨_, hmem, rfl⟩))
    exact ⟨y, h5, ci, h3, h6⟩
  obtain ⟨l, hll, hφ⟩ := choices len each
  subst hll
  refine ⟨l, ⟨hlt, fun y hy => ?_⟩, crel_one fun μ => ?_⟩
  · obtain ⟨i, hi, rfl⟩ := List.getElem_of_mem hy
    exact (hφ i hi).1
  by_cases h0 : l = []
  · subst h0
    exact .fro0 (some a) cap (by simp)
  have hpos : 0 < l.length := List.length_pos_iff.2 h0
  have hcell : ∀ i j, i < l.length → j < P.cellsOf e → ∃ c, cellAt w.heap a.block (a.off + i * P.cellsOf e + j) = some c ∧ a.block < w.heap.size ∧ (i = 0 → j = 0 → a.spot = none) ∧ ∀ (hi : i < l.length), VRel (fun b => b < w.heap.size) μ w.heap ((f l[i]).getD j .any) c := by
    intro i j hi hj
    obtain ⟨_, ci, h1, h2⟩ := hφ i hi
    obtain ⟨h3, h4⟩ := cells_at h1
    have h5 := h4 j hj
    have h6 := cell_none h5
    have hbk : ((a.add (i * P.cellsOf e)).add j).block = a.block := by simp only [Addr.add]; split <;> split <;> rfl
    have hof : ((a.add (i * P.cellsOf e)).add j).off = a.off + i * P.cellsOf e + j := by
      simp only [Addr.add]; split <;> split <;> simp_all
    refine ⟨ci.getD j undef, ?_, by rw [← hbk]; exact h6.2, ?_, fun _ => ?_⟩
    · rw [← hof, ← hbk, ← cell_eq]
      rw [← h5]
      congr 1
      generalize (a.add (i * P.cellsOf e)).add j = b at h6
      cases b
      simp at h6 ⊢
      exact h6.1.symm
    · rintro rfl rfl
      simp [Addr.add] at h6
      exact h6.1
    · exact h2.2 μ j (by rw [h2.1, h3]; exact hj)
  obtain ⟨_, _, hz, hs, _⟩ := hcell 0 0 hpos hc
  have ha : a = ⟨a.block, a.off, none⟩ := by
    cases a; simp at hs ⊢; exact hs
  have hlf : ∀ i, i < l.length → (f (l[i]?.getD (l[0]'hpos))).length = P.cellsOf e := fun i hi => by
    obtain ⟨_, ci, h1, h2⟩ := hφ i hi
    rw [List.getElem?_eq_getElem hi, Option.getD_some, h2.1, (cells_at h1).1]
  have hgd : ∀ i (hi : i < l.length), (l.map f).getD i [] = f l[i] := fun i hi => by simp [List.getD_eq_getElem?_getD, hi]
  have hcl : (l.map f).length = l.length := by simp
  have := VRel.fro (Z := fun b => b < w.heap.size) (μ := μ) (hp := w.heap) (l.map f) a.block a.off (P.cellsOf e) cap (fun i j => (cellAt w.heap a.block (a.off + i * P.cellsOf e + j)).getD undef) hz (by rw [hcl]; exact hl)
    (fun i hi => by
      rw [hcl] at hi
      have := hlf i hi
      rw [List.getElem?_eq_getElem hi, Option.getD_some] at this
      rw [hgd i hi]; exact this)
    (fun i j hi hj => by
      rw [hcl] at hi
      obtain ⟨c, h1, _⟩ := hcell i j hi hj
      rw [h1]; rfl)
    (fun i j hi hj => by
      rw [hcl] at hi
      obtain ⟨c, h1, _, _, h2⟩ := hcell i j hi hj
      rw [h1, hgd i hi]; exact h2 hi)
  rw [hcl, ← ha] at this
  exact this

/-- A struct whose fields are a cell each. -/
theorem rd_fields {P : Program} {t : TypeId} {fs : Array Field} (ht : P.underlying t = some (.struct fs)) (hf : ∀ (i : Nat) (f : Field), fs[i]? = some f → f.offset = i ∧ P.cellsOf f.type = 1) (hn : P.cellsOf t = fs.size)
    {H : Type} {enc : TypeId × Value → H} {w : World} {base : Nat} {sp : Nat → Bool} {held : Bool} {fuel : Nat} {cs : List Value} {x : DataW H × List MemPlace} (h : DataW.trod enc P w base sp held fuel t cs = some x) (hw : Wt P t x.1) :
    cs.length = fs.size ∧ ∀ (i : Nat) (f : Field), fs[i]? = some f → ∀ {α : Type} {g : α → List V} {ok : α → Prop}, Rdr P f.type g ok → ∃ a, ok a ∧ CRel w.heap [cs.getD i undef] (g a) := by
  obtain ⟨xs, n, rfl, rfl, hl, hlen, hx⟩ := DataW.trod_struct ht h
  refine ⟨by rw [hl, hn], fun i f hi α g ok hr => ?_⟩
  obtain ⟨h1, h2⟩ := hf i f hi
  have hi2 : i < fs.size := (Array.getElem?_eq_some_iff.1 hi).1
  have h3 := hx i f hi
  have h4 : xs[i]? = some (xs[i]'(by omega)) := List.getElem?_eq_getElem (by omega)
  rw [h4, h1, h2] at h3
  have h5 : (cs.drop i).take 1 = [cs.getD i undef] := by
    rw [List.getD_eq_getElem?_getD, List.getElem?_eq_getElem (by omega), List.drop_eq_getElem_cons (by omega)]
    rfl
  rw [h5] at h3
  exact hr enc w base sp held n _ _ h3 (wt_struct ht hw hi (by simp [h4]))

theorem crel_cons {hp : Array Obj} {c : Value} {cs : List Value} {v : V} {vs : List V} (h : CRel hp [c] [v]) (k : CRel hp cs vs) : CRel hp (c :: cs) (v :: vs) := by
  refine ⟨by simp [k.1], fun μ i hi => ?_⟩
  cases i with
  | zero => exact h.2 μ 0 (by simp)
  | succ i => exact k.2 μ i (by simpa using hi)
theorem crel_nil {hp : Array Obj} : CRel hp [] [] := ⟨rfl, fun μ i hi => by simp at hi⟩

end Gv

/-
  Grammars that read as data are grammars of the machine's.
  Conditions: none.
-/
set_option linter.unusedSimpArgs false
set_option maxRecDepth 100000
namespace Gv
open Go Go.Proofs

theorem wf_in64 {n : Int} (h : (Lit.int .i64 n).wf = true) : In64 n := by
  simp only [Lit.wf, Bool.and_eq_true, decide_eq_true_eq] at h
  exact h

theorem rd_goint : Rdr Tryz.prog 3 (fun n => [gi n]) In64 := fun enc w base sp held fuel cs x h hw => by
  obtain ⟨n, h1, h2⟩ := rd_int Tryz.underlying3 enc w base sp held fuel cs x h hw
  exact ⟨n, wf_in64 h1, h2⟩

theorem rd_ints : Rdr Tryz.prog 33 (fun l : List Int => [encI l]) (fun l => Short l ∧ ∀ x ∈ l, In64 x) :=
  rd_slice Tryz.underlying33 (of_decide_eq_true (by kernel_rfl)) (of_decide_eq_true (by kernel_rfl)) rd_goint

theorem rd_strings : Rdr Tryz.prog 23 (fun l : List ByteArray => [encS l]) (fun l => Short l ∧ ∀ x ∈ l, True) :=
  rd_slice Tryz.underlying23 (of_decide_eq_true (by kernel_rfl)) (of_decide_eq_true (by kernel_rfl)) (rd_string Tryz.underlying9)

theorem cs3 {cs : List Value} (h : cs.length = 3) : cs = [cs.getD 0 undef, cs.getD 1 undef, cs.getD 2 undef] := by
  match cs, h with
  | [a, b, c], _ => rfl
theorem cs4 {cs : List Value} (h : cs.length = 4) : cs = [cs.getD 0 undef, cs.getD 1 undef, cs.getD 2 undef, cs.getD 3 undef] := by
  match cs, h with
  | [a, b, c, d], _ => rfl

theorem rd_term : Rdr Tryz.prog 63 encT (fun t => In64 t.level ∧ In64 t.assoc) := fun enc w base sp held fuel cs x h hw => by
  obtain ⟨hl, hf⟩ := rd_fields Tryz.underlying63 (by
    intro i f hi
    match i, hi with
    | 0, hi => simp at hi; subst hi; exact ⟨rfl, by kernel_rfl⟩
    | 1, hi => simp at hi; subst hi; exact ⟨rfl, by kernel_rfl⟩
    | 2, hi => simp at hi; subst hi; exact ⟨rfl, by kernel_rfl⟩
    | n + 3, hi => simp at hi) (by kernel_rfl) h hw
  obtain ⟨a, _, h1⟩ := hf 0 _ rfl (rd_string Tryz.underlying9)
  obtain ⟨b, h2, h3⟩ := hf 1 _ rfl rd_goint
  obtain ⟨c, h4, h5⟩ := hf 2 _ rfl rd_goint
  refine ⟨⟨a, b, c⟩, ⟨h2, h4⟩, ?_⟩
  rw [cs3 hl]
  exact crel_cons h1 (crel_cons h3 (crel_cons h5 crel_nil))

theorem rd_rule : Rdr Tryz.prog 40 encR (fun r => In64 r.left ∧ In64 r.prec ∧ Short r.right ∧ ∀ x ∈ r.right, In64 x) := fun enc w base sp held fuel cs x h hw => by
  obtain ⟨hl, hf⟩ := rd_fields Tryz.underlying40 (by
    intro i f hi
    match i, hi with
    | 0, hi => simp at hi; subst hi; exact ⟨rfl, by kernel_rfl⟩
    | 1, hi => simp at hi; subst hi; exact ⟨rfl, by kernel_rfl⟩
    | 2, hi => simp at hi; subst hi; exact ⟨rfl, by kernel_rfl⟩
    | n + 3, hi => simp at hi) (by kernel_rfl) h hw
  obtain ⟨a, h0, h1⟩ := hf 0 _ rfl rd_goint
  obtain ⟨b, h2, h3⟩ := hf 1 _ rfl rd_ints
  obtain ⟨c, h4, h5⟩ := hf 2 _ rfl rd_goint
  refine ⟨⟨a, b, c⟩, ⟨h0, h4, h2.1, h2.2⟩, ?_⟩
  rw [cs3 hl]
  exact crel_cons h1 (crel_cons h3 (crel_cons h5 crel_nil))

theorem rd_gram : Rdr Tryz.prog 26 encG Gram.Ok := fun enc w base sp held fuel cs x h hw => by
  obtain ⟨hl, hf⟩ := rd_fields Tryz.underlying26 (by
    intro i f hi
    match i, hi with
    | 0, hi => simp at hi; subst hi; exact ⟨rfl, by kernel_rfl⟩
    | 1, hi => simp at hi; subst hi; exact ⟨rfl, by kernel_rfl⟩
    | 2, hi => simp at hi; subst hi; exact ⟨rfl, by kernel_rfl⟩
    | 3, hi => simp at hi; subst hi; exact ⟨rfl, by kernel_rfl⟩
    | n + 4, hi => simp at hi) (by kernel_rfl) h hw
  obtain ⟨a, h0, h1⟩ := hf 0 _ rfl (rd_slice Tryz.underlying22 (of_decide_eq_true (by kernel_rfl)) (of_decide_eq_true (by kernel_rfl)) rd_term)
  obtain ⟨b, h2, h3⟩ := hf 1 _ rfl rd_strings
  obtain ⟨c, h4, h5⟩ := hf 2 _ rfl (rd_slice Tryz.underlying24 (of_decide_eq_true (by kernel_rfl)) (of_decide_eq_true (by kernel_rfl)) rd_rule)
  obtain ⟨d, h6, h7⟩ := hf 3 _ rfl rd_goint
  refine ⟨⟨a, b, c, d⟩, ⟨h0.1, h2.1, h4.1, h6, h0.2, h4.2⟩, ?_⟩
  rw [cs4 hl]
  exact crel_cons h1 (crel_cons h3 (crel_cons h5 (crel_cons h7 crel_nil)))

end Gv
