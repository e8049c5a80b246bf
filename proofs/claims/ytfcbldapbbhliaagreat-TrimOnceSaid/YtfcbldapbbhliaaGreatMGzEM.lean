/-
  Part 13 of the proof: what the machine does and what the functions answer.
  Conditions: those that each lemma names.
-/
import Derived.Test.YtfcbldapbbhliaaGreatMGzEL
set_option linter.unusedSimpArgs false
set_option linter.unusedVariables false

/-
  The law on reducing once: the walk.
  Conditions: lists that are no longer than an int says, numbers that are ints.
-/
set_option linter.unusedSimpArgs false
set_option maxRecDepth 100000
namespace Gv
open Go Go.Proofs

def B_gerundlaw11_TrimOnce_0 : SC :=
  .seq (.seq (.region false [⟨none, [((some 95), .op (.mov (.tmp 11))), ((some 96), .op (.mov (.tmp 9))), ((some 97), .op (.len (.tmp 96))), ((some 98), .op (.arith .lss (.tmp 95) (.tmp 97)))]⟩]) <|
  .cond (.tmp 98) (.skip) (.exit 0)) <|
  .seq (.block 1 (.seq (.region false [⟨none, [((some 101), .op (.mov (.tmp 9))), ((some 102), .op (.mov (.tmp 11))), ((some 103), .op (.idx 1 (.tmp 101) (.tmp 102))), ((some 104), .op (.load none (.tmp 103))), ((some 105), .op (.not (.tmp 104))), ((some 106), .op (.mov (.tmp 105)))]⟩, ⟨(some (106, false)), [((some 107), .op (.mov (.tmp 10))), ((some 108), .op (.mov (.tmp 11))), ((some 109), .op (.idx 1 (.tmp 107) (.tmp 108))), ((some 110), .op (.load none (.tmp 109))), ((some 111), .op (.not (.tmp 110)))]⟩, ⟨none, [((some 112), .op (.pick (.tmp 106) (.val (.val (.bool true))) (.tmp 111)))]⟩]) <|
  .cond (.tmp 112) (.seq (.region false [⟨none, [((some 2), .op (.mov (.val (.val (.bool false)))))]⟩]) <|
  .ret) (.skip))) <|
  .region false [⟨none, [((some 99), .op (.mov (.tmp 11))), ((some 100), .op (.arith .add (.tmp 99) (.val (.val (.int .i64 1))))), ((some 11), .op (.mov (.tmp 100)))]⟩]
def B_gerundlaw11_TrimOnce_1 : SC :=
  .seq (.seq (.region false [⟨none, [((some 200), .op (.mov (.tmp 15))), ((some 201), .op (.addr 1 (.tmp 13))), ((some 202), .op (.load none (.tmp 201))), ((some 203), .op (.len (.tmp 202))), ((some 204), .op (.arith .lss (.tmp 200) (.tmp 203)))]⟩]) <|
  .cond (.tmp 204) (.skip) (.exit 4)) <|
  .seq (.block 5 (.seq (.region true [⟨none, [((some 207), .op (.load (some 4) (.tmp 3))), ((some 208), .op (.addr 1 (.tmp 13))), ((some 209), .op (.load none (.tmp 208))), ((some 210), .op (.mov (.tmp 15))), ((some 211), .op (.idx 1 (.tmp 209) (.tmp 210))), ((some 212), .op (.load none (.tmp 211))), ((some 213), .call (.val (.fn 29 [] [])) [(.tmp 207), (.tmp 212)]), ((some 214), .op (.load (some 4) (.tmp 1))), ((some 215), .op (.addr 1 (.tmp 14))), ((some 216), .op (.load none (.tmp 215))), ((some 217), .op (.mov (.tmp 15))), ((some 218), .op (.idx 1 (.tmp 216) (.tmp 217))), ((some 219), .op (.load none (.tmp 218))), ((some 220), .call (.val (.fn 29 [] [])) [(.tmp 214), (.tmp 219)]), ((some 221), .op (.sop .neq (.tmp 213) (.tmp 220)))]⟩]) <|
  .cond (.tmp 221) (.seq (.region false [⟨none, [((some 2), .op (.mov (.val (.val (.bool false)))))]⟩]) <|
  .ret) (.skip))) <|
  .region false [⟨none, [((some 205), .op (.mov (.tmp 15))), ((some 206), .op (.arith .add (.tmp 205) (.val (.val (.int .i64 1))))), ((some 15), .op (.mov (.tmp 206)))]⟩]
def B_gerundlaw11_TrimOnce_2 : SC :=
  .seq (.seq (.region false [⟨none, [((some 113), .op (.mov (.tmp 12))), ((some 114), .op (.mov (.tmp 4))), ((some 115), .op (.len (.tmp 114))), ((some 116), .op (.arith .lss (.tmp 113) (.tmp 115)))]⟩]) <|
  .cond (.tmp 116) (.skip) (.exit 2)) <|
  .seq (.block 3 (.seq (.seq (.region false [⟨none, [((some 119), .op (.mov (.tmp 7))), ((some 120), .op (.mov (.tmp 12))), ((some 121), .op (.idx 1 (.tmp 119) (.tmp 120))), ((some 122), .op (.load none (.tmp 121))), ((some 123), .op (.mov (.tmp 12))), ((some 124), .op (.arith .neq (.tmp 122) (.tmp 123))), ((some 125), .op (.mov (.tmp 124)))]⟩, ⟨(some (125, false)), [((some 126), .op (.mov (.tmp 4))), ((some 127), .op (.mov (.tmp 12))), ((some 128), .op (.idx 1 (.tmp 126) (.tmp 127))), ((some 129), .op (.load none (.tmp 128))), ((some 130), .op (.arith .lss (.tmp 129) (.val (.val (.int .i64 0)))))]⟩, ⟨none, [((some 131), .op (.pick (.tmp 125) (.val (.val (.bool true))) (.tmp 130))), ((some 132), .op (.mov (.tmp 131)))]⟩, ⟨(some (132, false)), [((some 133), .op (.mov (.tmp 4))), ((some 134), .op (.mov (.tmp 12))), ((some 135), .op (.idx 1 (.tmp 133) (.tmp 134))), ((some 136), .op (.load none (.tmp 135))), ((some 137), .op (.addr 2 (.tmp 1))), ((some 138), .op (.load none (.tmp 137))), ((some 139), .op (.len (.tmp 138))), ((some 140), .op (.arith .geq (.tmp 136) (.tmp 139)))]⟩, ⟨none, [((some 141), .op (.pick (.tmp 132) (.val (.val (.bool true))) (.tmp 140))), ((some 142), .op (.mov (.tmp 141)))]⟩, ⟨(some (142, false)), [((some 143), .op (.mov (.tmp 12))), ((some 144), .op (.arith .gtr (.tmp 143) (.val (.val (.int .i64 0))))), ((some 145), .op (.mov (.tmp 144)))]⟩, ⟨(some (145, true)), [((some 146), .op (.mov (.tmp 4))), ((some 147), .op (.mov (.tmp 12))), ((some 148), .op (.arith .sub (.tmp 147) (.val (.val (.int .i64 1))))), ((some 149), .op (.idx 1 (.tmp 146) (.tmp 148))), ((some 150), .op (.load none (.tmp 149))), ((some 151), .op (.mov (.tmp 4))), ((some 152), .op (.mov (.tmp 12))), ((some 153), .op (.idx 1 (.tmp 151) (.tmp 152))), ((some 154), .op (.load none (.tmp 153))), ((some 155), .op (.arith .geq (.tmp 150) (.tmp 154)))]⟩, ⟨(some (142, false)), [((some 156), .op (.pick (.tmp 145) (.tmp 155) (.val (.val (.bool false)))))]⟩, ⟨none, [((some 157), .op (.pick (.tmp 142) (.val (.val (.bool true))) (.tmp 156)))]⟩]) <|
  .cond (.tmp 157) (.seq (.region false [⟨none, [((some 2), .op (.mov (.val (.val (.bool false)))))]⟩]) <|
  .ret) (.skip)) <|
  .seq (.region false [⟨none, [((some 158), .op (.addr 2 (.tmp 3))), ((some 159), .op (.load none (.tmp 158))), ((some 160), .op (.mov (.tmp 12))), ((some 161), .op (.idx 3 (.tmp 159) (.tmp 160))), ((some 162), .op (.load (some 3) (.tmp 161))), ((some 163), .op (.addr 2 (.tmp 1))), ((some 164), .op (.load none (.tmp 163))), ((some 165), .op (.mov (.tmp 4))), ((some 166), .op (.mov (.tmp 12))), ((some 167), .op (.idx 1 (.tmp 165) (.tmp 166))), ((some 168), .op (.load none (.tmp 167))), ((some 169), .op (.idx 3 (.tmp 164) (.tmp 168))), ((some 170), .op (.load (some 3) (.tmp 169))), ((some 13), .op (.alloc [(.val (.int .i64 0)), (.emp 1), (.val (.int .i64 0))])), ((some 14), .op (.alloc [(.val (.int .i64 0)), (.emp 1), (.val (.int .i64 0))])), (none, .op (.store 3 (.tmp 13) (.tmp 162))), (none, .op (.store 3 (.tmp 14) (.tmp 170)))]⟩]) <|
  .seq (.seq (.region false [⟨none, [((some 171), .op (.addr 1 (.tmp 13))), ((some 172), .op (.load none (.tmp 171))), ((some 173), .op (.len (.tmp 172))), ((some 174), .op (.addr 1 (.tmp 14))), ((some 175), .op (.load none (.tmp 174))), ((some 176), .op (.len (.tmp 175))), ((some 177), .op (.arith .neq (.tmp 173) (.tmp 176))), ((some 178), .op (.mov (.tmp 177)))]⟩, ⟨(some (178, false)), [((some 179), .op (.addr 2 (.tmp 13))), ((some 180), .op (.load none (.tmp 179))), ((some 181), .op (.addr 2 (.tmp 14))), ((some 182), .op (.load none (.tmp 181))), ((some 183), .op (.arith .neq (.tmp 180) (.tmp 182)))]⟩, ⟨none, [((some 184), .op (.pick (.tmp 178) (.val (.val (.bool true))) (.tmp 183))), ((some 185), .op (.mov (.tmp 184)))]⟩, ⟨(some (185, false)), [((some 186), .op (.addr 1 (.tmp 3))), ((some 187), .op (.load none (.tmp 186))), ((some 188), .op (.addr 0 (.tmp 13))), ((some 189), .op (.load none (.tmp 188))), ((some 190), .op (.idx 1 (.tmp 187) (.tmp 189))), ((some 191), .op (.load none (.tmp 190))), ((some 192), .op (.addr 1 (.tmp 1))), ((some 193), .op (.load none (.tmp 192))), ((some 194), .op (.addr 0 (.tmp 14))), ((some 195), .op (.load none (.tmp 194))), ((some 196), .op (.idx 1 (.tmp 193) (.tmp 195))), ((some 197), .op (.load none (.tmp 196))), ((some 198), .op (.sop .neq (.tmp 191) (.tmp 197)))]⟩, ⟨none, [((some 199), .op (.pick (.tmp 185) (.val (.val (.bool true))) (.tmp 198)))]⟩]) <|
  .cond (.tmp 199) (.seq (.region false [⟨none, [((some 2), .op (.mov (.val (.val (.bool false)))))]⟩]) <|
  .ret) (.skip)) <|
  .seq (.region false [⟨none, [((some 15), .op (.mov (.val (.val (.int .i64 0)))))]⟩]) <|
  .block 4 (.loop B_gerundlaw11_TrimOnce_1))) <|
  .region false [⟨none, [((some 117), .op (.mov (.tmp 12))), ((some 118), .op (.arith .add (.tmp 117) (.val (.val (.int .i64 1))))), ((some 12), .op (.mov (.tmp 118)))]⟩]
def S_gerundlaw11_TrimOnce : SF := ⟨.seq (.region false [⟨none, [((some 1), .op (.frz (.tmp 0))), ((some 2), .op (.mov (.val (.val (.bool false)))))]⟩]) <|
  .seq (.seq (.region false [⟨none, [((some 16), .call (.val (.fn 12 [] [])) []), ((some 17), .op (.not (.tmp 16)))]⟩]) <|
  .cond (.tmp 17) (.seq (.region false [⟨none, [((some 2), .op (.mov (.val (.val (.bool false)))))]⟩]) <|
  .ret) (.skip)) <|
  .seq (.seq (.region false [⟨none, [((some 18), .op (.load (some 4) (.tmp 1))), ((some 19), .call (.val (.fn 13 [] [])) [(.tmp 18)])]⟩]) <|
  .cond (.tmp 19) (.seq (.region false [⟨none, [((some 2), .op (.mov (.val (.val (.bool true)))))]⟩]) <|
  .ret) (.skip)) <|
  .seq (.region false [⟨none, [((some 21), .op (.load (some 4) (.tmp 1))), ((some 22), .call (.val (.fn 24 [] [])) [(.tmp 21)]), ((some 20), .op (.mov (.tmp 22))), ((some 23), .op (.ext 0 (.tmp 20))), ((some 24), .op (.ext 1 (.tmp 20))), ((some 25), .op (.ext 2 (.tmp 20))), ((some 3), .op (.alloc [(.emp 1), (.emp 1), (.emp 1), (.val (.int .i64 0))])), (none, .op (.store 4 (.tmp 3) (.tmp 23))), ((some 4), .op (.mov (.tmp 24))), ((some 5), .op (.mov (.tmp 25)))]⟩]) <|
  .seq (.seq (.region false [⟨none, [((some 26), .op (.mov (.tmp 5))), ((some 27), .op (.arith .neq (.tmp 26) (.val (.val (.int .i64 0)))))]⟩]) <|
  .cond (.tmp 27) (.seq (.region false [⟨none, [((some 28), .op (.addr 2 (.tmp 3))), ((some 29), .op (.load none (.tmp 28))), ((some 30), .op (.len (.tmp 29))), ((some 31), .op (.arith .eql (.tmp 30) (.val (.val (.int .i64 0))))), ((some 32), .op (.mov (.tmp 31)))]⟩, ⟨(some (32, true)), [((some 33), .op (.mov (.tmp 4))), ((some 34), .op (.len (.tmp 33))), ((some 35), .op (.arith .eql (.tmp 34) (.val (.val (.int .i64 0)))))]⟩, ⟨none, [((some 36), .op (.pick (.tmp 32) (.tmp 35) (.val (.val (.bool false))))), ((some 2), .op (.mov (.tmp 36)))]⟩]) <|
  .ret) (.skip)) <|
  .seq (.region false [⟨none, [((some 38), .op (.load (some 4) (.tmp 3))), ((some 39), .call (.val (.fn 24 [] [])) [(.tmp 38)]), ((some 37), .op (.mov (.tmp 39))), ((some 40), .op (.ext 0 (.tmp 37))), ((some 41), .op (.ext 1 (.tmp 37))), ((some 42), .op (.ext 2 (.tmp 37))), ((some 6), .op (.alloc [(.emp 1), (.emp 1), (.emp 1), (.val (.int .i64 0))])), (none, .op (.store 4 (.tmp 6) (.tmp 40))), ((some 7), .op (.mov (.tmp 41))), ((some 8), .op (.mov (.tmp 42)))]⟩]) <|
  .seq (.seq (.region false [⟨none, [((some 43), .op (.mov (.tmp 8))), ((some 44), .op (.arith .neq (.tmp 43) (.val (.val (.int .i64 0))))), ((some 45), .op (.mov (.tmp 44)))]⟩, ⟨(some (45, false)), [((some 46), .op (.load (some 4) (.tmp 3))), ((some 47), .call (.val (.fn 28 [] [])) [(.tmp 46)]), ((some 48), .op (.not (.tmp 47)))]⟩, ⟨none, [((some 49), .op (.pick (.tmp 45) (.val (.val (.bool true))) (.tmp 48))), ((some 50), .op (.mov (.tmp 49)))]⟩, ⟨(some (50, false)), [((some 51), .op (.load (some 4) (.tmp 3))), ((some 52), .op (.load (some 4) (.tmp 6))), ((some 53), .call (.val (.fn 26 [] [])) [(.tmp 51), (.tmp 52)]), ((some 54), .op (.not (.tmp 53)))]⟩, ⟨none, [((some 55), .op (.pick (.tmp 50) (.val (.val (.bool true))) (.tmp 54))), ((some 56), .op (.mov (.tmp 55)))]⟩, ⟨(some (56, false)), [((some 57), .op (.mov (.tmp 7))), ((some 58), .op (.len (.tmp 57))), ((some 59), .op (.addr 2 (.tmp 3))), ((some 60), .op (.load none (.tmp 59))), ((some 61), .op (.len (.tmp 60))), ((some 62), .op (.arith .neq (.tmp 58) (.tmp 61)))]⟩, ⟨none, [((some 63), .op (.pick (.tmp 56) (.val (.val (.bool true))) (.tmp 62))), ((some 64), .op (.mov (.tmp 63)))]⟩, ⟨(some (64, false)), [((some 65), .op (.mov (.tmp 4))), ((some 66), .op (.len (.tmp 65))), ((some 67), .op (.addr 2 (.tmp 3))), ((some 68), .op (.load none (.tmp 67))), ((some 69), .op (.len (.tmp 68))), ((some 70), .op (.arith .neq (.tmp 66) (.tmp 69)))]⟩, ⟨none, [((some 71), .op (.pick (.tmp 64) (.val (.val (.bool true))) (.tmp 70))), ((some 72), .op (.mov (.tmp 71)))]⟩, ⟨(some (72, false)), [((some 73), .op (.load (some 4) (.tmp 3))), ((some 74), .call (.val (.fn 21 [] [])) [(.tmp 73)]), ((some 75), .op (.not (.tmp 74)))]⟩, ⟨none, [((some 76), .op (.pick (.tmp 72) (.val (.val (.bool true))) (.tmp 75)))]⟩]) <|
  .cond (.tmp 76) (.seq (.region false [⟨none, [((some 2), .op (.mov (.val (.val (.bool false)))))]⟩]) <|
  .ret) (.skip)) <|
  .seq (.region true [⟨none, [((some 77), .op (.load (some 4) (.tmp 3))), ((some 78), .call (.val (.fn 17 [] [])) [(.tmp 77)]), ((some 79), .op (.load (some 4) (.tmp 3))), ((some 80), .call (.val (.fn 19 [] [])) [(.tmp 79)]), ((some 9), .op (.mov (.tmp 78))), ((some 10), .op (.mov (.tmp 80)))]⟩]) <|
  .seq (.seq (.region false [⟨none, [((some 81), .op (.mov (.tmp 9))), ((some 82), .op (.len (.tmp 81))), ((some 83), .op (.addr 1 (.tmp 3))), ((some 84), .op (.load none (.tmp 83))), ((some 85), .op (.len (.tmp 84))), ((some 86), .op (.arith .neq (.tmp 82) (.tmp 85))), ((some 87), .op (.mov (.tmp 86)))]⟩, ⟨(some (87, false)), [((some 88), .op (.mov (.tmp 10))), ((some 89), .op (.len (.tmp 88))), ((some 90), .op (.addr 1 (.tmp 3))), ((some 91), .op (.load none (.tmp 90))), ((some 92), .op (.len (.tmp 91))), ((some 93), .op (.arith .neq (.tmp 89) (.tmp 92)))]⟩, ⟨none, [((some 94), .op (.pick (.tmp 87) (.val (.val (.bool true))) (.tmp 93)))]⟩]) <|
  .cond (.tmp 94) (.seq (.region false [⟨none, [((some 2), .op (.mov (.val (.val (.bool false)))))]⟩]) <|
  .ret) (.skip)) <|
  .seq (.seq (.region false [⟨none, [((some 11), .op (.mov (.val (.val (.int .i64 0)))))]⟩]) <|
  .block 0 (.loop B_gerundlaw11_TrimOnce_0)) <|
  .seq (.seq (.region false [⟨none, [((some 12), .op (.mov (.val (.val (.int .i64 0)))))]⟩]) <|
  .block 2 (.loop B_gerundlaw11_TrimOnce_2)) <|
  .seq (.region false [⟨none, [((some 222), .op (.addr 1 (.tmp 3))), ((some 223), .op (.load none (.tmp 222))), ((some 224), .op (.addr 3 (.tmp 3))), ((some 225), .op (.load none (.tmp 224))), ((some 226), .op (.idx 1 (.tmp 223) (.tmp 225))), ((some 227), .op (.load none (.tmp 226))), ((some 228), .op (.addr 1 (.tmp 1))), ((some 229), .op (.load none (.tmp 228))), ((some 230), .op (.addr 3 (.tmp 1))), ((some 231), .op (.load none (.tmp 230))), ((some 232), .op (.idx 1 (.tmp 229) (.tmp 231))), ((some 233), .op (.load none (.tmp 232))), ((some 234), .op (.sop .eql (.tmp 227) (.tmp 233))), ((some 2), .op (.mov (.tmp 234)))]⟩]) <|
  .ret,
  [.tmp 2], 235⟩
theorem S_gerundlaw11_TrimOnce_ok : compF Tryz.prog 5 [1] = some S_gerundlaw11_TrimOnce := by kernel_rfl


set_option maxHeartbeats 4000000 in
theorem pc_TrimOnce (g : Gram) (hg : g.Ok) : PCall Tryz.prog 5 [.agg (encG g)] (gb true) := by
  refine PCall.val (gg_tree g) fun H => ?_
  refine MCall.of mixed S_gerundlaw11_TrimOnce_ok ?_
  simp (disch := omega) only [↓wr, ↓reduceIte, wq, eq_self, ne_eq, implies_true, oneV, intOp, goI, splice, sBuild, fillE, nilB, isNil, Nat.reduceEqDiff, Nat.reduceAdd, Nat.reduceLT, Nat.reduceLeDiff, Int.reduceNeg, Int.reduceToNat, reduceCtorEq, decide_true, decide_false, S_gerundlaw11_TrimOnce, encG, encS]
  refine CallG.pure pc_alive (by kernel_rfl) ?_
  simp (disch := omega) only [↓wr, ↓reduceIte, wq, eq_self, ne_eq, implies_true, oneV, intOp, goI, splice, sBuild, fillE, nilB, isNil, Nat.reduceEqDiff, Nat.reduceAdd, Nat.reduceLT, Nat.reduceLeDiff, Int.reduceNeg, Int.reduceToNat, reduceCtorEq, decide_true, decide_false, encG, encS]
  refine CallG.pure (pc_great g) (by kernel_rfl) ?_
  simp (disch := omega) only [↓wr, ↓reduceIte, wq, eq_self, ne_eq, implies_true, oneV, intOp, goI, splice, sBuild, fillE, nilB, isNil, Nat.reduceEqDiff, Nat.reduceAdd, Nat.reduceLT, Nat.reduceLeDiff, Int.reduceNeg, Int.reduceToNat, reduceCtorEq, decide_true, decide_false]
  refine GoB.split (fun e => ?_) (fun e => ?_)
  · simp (disch := omega) only [↓wr, ↓reduceIte, wq, eq_self, ne_eq, implies_true, oneV, intOp, goI, splice, sBuild, fillE, nilB, isNil, Nat.reduceEqDiff, Nat.reduceAdd, Nat.reduceLT, Nat.reduceLeDiff, Int.reduceNeg, Int.reduceToNat, reduceCtorEq, decide_true, decide_false]
  have hs : g.Small := great_small e
  simp (disch := omega) only [↓wr, ↓reduceIte, wq, eq_self, ne_eq, implies_true, oneV, intOp, goI, splice, sBuild, fillE, nilB, isNil, Nat.reduceEqDiff, Nat.reduceAdd, Nat.reduceLT, Nat.reduceLeDiff, Int.reduceNeg, Int.reduceToNat, reduceCtorEq, decide_true, decide_false, encG, encS]
  refine CallG.pure (pn_tReduce g hg hs).pure (by kernel_rfl) ?_
  rcases reduce_cases g with ⟨er, her, hx⟩ | ⟨p, q, o, r, hred, hx⟩
  · rw [hx]
    simp (disch := omega) only [↓wr, ↓reduceIte, wq, eq_self, ne_eq, implies_true, oneV, intOp, goI, splice, sBuild, fillE, nilB, isNil, Nat.reduceEqDiff, Nat.reduceAdd, Nat.reduceLT, Nat.reduceLeDiff, Int.reduceNeg, Int.reduceToNat, reduceCtorEq, decide_true, decide_false, outR, encG, encS, encI]
    intro n3 hn3
    refine GoB.ne (fun h => ?_) (fun h => absurd h her)
    simp (disch := omega) only [↓wr, ↓reduceIte, wq, eq_self, ne_eq, implies_true, oneV, intOp, goI, splice, sBuild, fillE, nilB, isNil, Nat.reduceEqDiff, Nat.reduceAdd, Nat.reduceLT, Nat.reduceLeDiff, Int.reduceNeg, Int.reduceToNat, reduceCtorEq, decide_true, decide_false, noG, List.map_nil, List.length_nil]
    repeat' (first | (refine GoB.dec (fun _ => ?_) (fun _ => ?_)) | (refine GoB.eq (fun _ => ?_) (fun _ => ?_)) | (refine GoB.ne (fun _ => ?_) (fun _ => ?_)) | (refine GoB.split (fun _ => ?_) (fun _ => ?_)) | (simp (disch := omega) only [↓wr, ↓reduceIte, wq, eq_self, ne_eq, implies_true, oneV, intOp, goI, splice, sBuild, fillE, nilB, isNil, Nat.reduceEqDiff, Nat.reduceAdd, Nat.reduceLT, Nat.reduceLeDiff, Int.reduceNeg, Int.reduceToNat, reduceCtorEq, decide_true, decide_false, noG, List.map_nil, List.length_nil]))
    all_goals simp_all
  · rw [hx]
    have hro := hred.ok hg
    have hrs := hred.small hs
    simp (disch := omega) only [↓wr, ↓reduceIte, wq, eq_self, ne_eq, implies_true, oneV, intOp, goI, splice, sBuild, fillE, nilB, isNil, Nat.reduceEqDiff, Nat.reduceAdd, Nat.reduceLT, Nat.reduceLeDiff, Int.reduceNeg, Int.reduceToNat, reduceCtorEq, decide_true, decide_false, outR, encG, encS]
    intro n3 hn3
    refine GoB.ne (fun h => absurd rfl h) (fun _ => ?_)
    simp (disch := omega) only [↓wr, ↓reduceIte, wq, eq_self, ne_eq, implies_true, oneV, intOp, goI, splice, sBuild, fillE, nilB, isNil, Nat.reduceEqDiff, Nat.reduceAdd, Nat.reduceLT, Nat.reduceLeDiff, Int.reduceNeg, Int.reduceToNat, reduceCtorEq, decide_true, decide_false, encG, encS]
    refine CallG.pure (pn_tReduce r hro hrs).pure (by kernel_rfl) ?_
    rw [hred.once]
    simp (disch := omega) only [↓wr, ↓reduceIte, wq, eq_self, ne_eq, implies_true, oneV, intOp, goI, splice, sBuild, fillE, nilB, isNil, Nat.reduceEqDiff, Nat.reduceAdd, Nat.reduceLT, Nat.reduceLeDiff, Int.reduceNeg, Int.reduceToNat, reduceCtorEq, decide_true, decide_false, outR, encG, encS]
    intro n6 hn6
    have d63 := (dead_if hn6 arr_live).1
    try simp (disch := omega) only [↓wr, ↓reduceIte, wq, eq_self, ne_eq, implies_true, oneV, intOp, goI, splice, sBuild, fillE, nilB, isNil, Nat.reduceEqDiff, Nat.reduceAdd, Nat.reduceLT, Nat.reduceLeDiff, Int.reduceNeg, Int.reduceToNat, reduceCtorEq, decide_true, decide_false, outR, encG, encS, d63, d63.symm]
    refine GoB.ne (fun h => absurd rfl h) (fun _ => ?_)
    simp (disch := omega) only [↓wr, ↓reduceIte, wq, eq_self, ne_eq, implies_true, oneV, intOp, goI, splice, sBuild, fillE, nilB, isNil, Nat.reduceEqDiff, Nat.reduceAdd, Nat.reduceLT, Nat.reduceLeDiff, Int.reduceNeg, Int.reduceToNat, reduceCtorEq, decide_true, decide_false, outR, encG, encS, d63, d63.symm]
    refine CallG.pure (pc_Right09 r hro) (by kernel_rfl) ?_
    rw [hred.right_red]
    simp (disch := omega) only [↓wr, ↓reduceIte, wq, eq_self, ne_eq, implies_true, oneV, intOp, goI, splice, sBuild, fillE, nilB, isNil, Nat.reduceEqDiff, Nat.reduceAdd, Nat.reduceLT, Nat.reduceLeDiff, Int.reduceNeg, Int.reduceToNat, reduceCtorEq, decide_true, decide_false, outR, encG, encS, d63, d63.symm]
    refine CallG.pureAs (fun H => H n3 = .arr 4 [encG r]) (pc_Same09 r r hro) (by kernel_rfl) (by simp [View.set, d63.symm, encG, encS]) ?_
    clear hn6 hn3 d63
    rintro H2 f3
    simp only [encG, encS] at f3
    rw [decide_eq_true (p := r = r) rfl]
    have hkl := hred.klen
    have hul := upTo_len r.rules.length
    have hrise := (keptI_rise p q g.rules 0).2
    have hkg := keptI_get p q g.rules 0
    generalize hil : keptI p q g.rules 0 = il at *
    have hfr := right09_fine hred.right_red
    have hf := right09_fine hred.right
    have z1 := hfr.rules
    have z2 := hfr.nons
    simp (disch := omega) only [↓wr, ↓reduceIte, wq, eq_self, ne_eq, implies_true, oneV, intOp, goI, splice, sBuild, fillE, nilB, isNil, Nat.reduceEqDiff, Nat.reduceAdd, Nat.reduceLT, Nat.reduceLeDiff, Int.reduceNeg, Int.reduceToNat, reduceCtorEq, decide_true, decide_false, f3, encI, List.length_map, hkl, hul]
    refine GoB.ne (fun h => absurd rfl h) (fun _ => ?_)
    simp (disch := omega) only [↓wr, ↓reduceIte, wq, eq_self, ne_eq, implies_true, oneV, intOp, goI, splice, sBuild, fillE, nilB, isNil, Nat.reduceEqDiff, Nat.reduceAdd, Nat.reduceLT, Nat.reduceLeDiff, Int.reduceNeg, Int.reduceToNat, reduceCtorEq, decide_true, decide_false, f3, encI, List.length_map, hkl, hul]
    refine GoB.ne (fun h => absurd rfl h) (fun _ => ?_)
    simp (disch := omega) only [↓wr, ↓reduceIte, wq, eq_self, ne_eq, implies_true, oneV, intOp, goI, splice, sBuild, fillE, nilB, isNil, Nat.reduceEqDiff, Nat.reduceAdd, Nat.reduceLT, Nat.reduceLeDiff, Int.reduceNeg, Int.reduceToNat, reduceCtorEq, decide_true, decide_false, f3, encI, List.length_map, hkl, hul]
    refine CallG.pure (pc_tIs r hro hrs) (by kernel_rfl) ?_
    rw [hred.isRed]
    simp (disch := omega) only [↓wr, ↓reduceIte, wq, eq_self, ne_eq, implies_true, oneV, intOp, goI, splice, sBuild, fillE, nilB, isNil, Nat.reduceEqDiff, Nat.reduceAdd, Nat.reduceLT, Nat.reduceLeDiff, Int.reduceNeg, Int.reduceToNat, reduceCtorEq, decide_true, decide_false, f3]
    refine CallG.pure (pn_tProductive r hro hrs).pure (by kernel_rfl) ?_
    simp (disch := omega) only [↓wr, ↓reduceIte, wq, eq_self, ne_eq, implies_true, oneV, intOp, goI, splice, sBuild, fillE, nilB, isNil, Nat.reduceEqDiff, Nat.reduceAdd, Nat.reduceLT, Nat.reduceLeDiff, Int.reduceNeg, Int.reduceToNat, reduceCtorEq, decide_true, decide_false, f3]
    refine CallG.pure (pn_tReachable r hro hrs).pure (by kernel_rfl) ?_
    have hpl := grown09_len hred.right_red true
    have hql := reach09_len hred.right_red
    simp (disch := omega) only [↓wr, ↓reduceIte, wq, eq_self, ne_eq, implies_true, oneV, intOp, goI, splice, sBuild, fillE, nilB, isNil, Nat.reduceEqDiff, Nat.reduceAdd, Nat.reduceLT, Nat.reduceLeDiff, Int.reduceNeg, Int.reduceToNat, reduceCtorEq, decide_true, decide_false, f3, encB, List.length_map, hpl, hql]
    refine GoB.ne (fun h => absurd rfl h) (fun _ => ?_)
    simp (disch := omega) only [↓wr, ↓reduceIte, wq, eq_self, ne_eq, implies_true, oneV, intOp, goI, splice, sBuild, fillE, nilB, isNil, Nat.reduceEqDiff, Nat.reduceAdd, Nat.reduceLT, Nat.reduceLeDiff, Int.reduceNeg, Int.reduceToNat, reduceCtorEq, decide_true, decide_false, f3, encB, List.length_map, hpl, hql]
    refine GoB.ne (fun h => absurd rfl h) (fun _ => ?_)
    simp (disch := omega) only [↓wr, ↓reduceIte, wq, eq_self, ne_eq, implies_true, oneV, intOp, goI, splice, sBuild, fillE, nilB, isNil, Nat.reduceEqDiff, Nat.reduceAdd, Nat.reduceLT, Nat.reduceLeDiff, Int.reduceNeg, Int.reduceToNat, reduceCtorEq, decide_true, decide_false, f3, encB, List.length_map, hpl, hql]
    refine LoopG.up r.nons.length (OnI g r n3 il) ⟨by simpa [encG, encS] using f3, rfl, rfl, rfl, rfl, rfl, rfl, rfl⟩ ?_
    clear f3 H2
    rintro i k T H2 hk ⟨f3, t1, t3, t4, t7, t9, t10, t11⟩
    simp (disch := omega) only [↓wr, ↓reduceIte, wq, eq_self, ne_eq, implies_true, oneV, intOp, goI, splice, sBuild, fillE, nilB, isNil, Nat.reduceEqDiff, Nat.reduceAdd, Nat.reduceLT, Nat.reduceLeDiff, Int.reduceNeg, Int.reduceToNat, reduceCtorEq, decide_true, decide_false, B_gerundlaw11_TrimOnce_0, t1, t3, t4, t7, t9, t10, t11, encB, List.length_map, hpl]
    refine GoB.dec (fun hc => ?_) (fun hc => ?_)
    · have h1 := hred.p_all (show i < r.nons.length by omega)
      have h2 := hred.q_all (show i < r.nons.length by omega)
      simp (disch := omega) only [↓wr, ↓reduceIte, wq, eq_self, ne_eq, implies_true, oneV, intOp, goI, splice, sBuild, fillE, nilB, isNil, Nat.reduceEqDiff, Nat.reduceAdd, Nat.reduceLT, Nat.reduceLeDiff, Int.reduceNeg, Int.reduceToNat, reduceCtorEq, decide_true, decide_false, t1, t3, t4, t7, t9, t10, t11, encB, List.getElem?_map, h1, h2]
      exact up_next hk (by omega) ⟨f3, t1, t3, t4, t7, t9, t10, rfl⟩
    simp (disch := omega) only [↓wr, ↓reduceIte, wq, eq_self, ne_eq, implies_true, oneV, intOp, goI, splice, sBuild, fillE, nilB, isNil, Nat.reduceEqDiff, Nat.reduceAdd, Nat.reduceLT, Nat.reduceLeDiff, Int.reduceNeg, Int.reduceToNat, reduceCtorEq, decide_true, decide_false, t1, t3, t4, t7, t9, t10, t11]
    refine LoopG.up il.length (OnJ g r n3 il) ⟨f3, t1, t3, t4, t7, rfl⟩ ?_
    clear f3 t1 t3 t4 t7 t9 t10 t11 hk hc i k T H2
    rintro i k T H2 hk ⟨f3, t1, t3, t4, t7, t12⟩
    have g3 := f3
    simp only [encG, encS] at g3
    simp (disch := omega) only [↓wr, ↓reduceIte, wq, eq_self, ne_eq, implies_true, oneV, intOp, goI, splice, sBuild, fillE, nilB, isNil, Nat.reduceEqDiff, Nat.reduceAdd, Nat.reduceLT, Nat.reduceLeDiff, Int.reduceNeg, Int.reduceToNat, reduceCtorEq, decide_true, decide_false, B_gerundlaw11_TrimOnce_2, t1, t3, t4, t7, t12, g3, encI, List.length_map, hkl]
    refine GoB.dec (fun hc => ?_) (fun hc => ?_)
    · obtain ⟨m, m1, m2, m3⟩ := hkg i (by omega)
      rw [Int.zero_add] at m1
      have hS : g.rules[m]? = some (g.rules[m]'m3) := List.getElem?_eq_getElem m3
      have hSm : g.rules[m]'m3 ∈ g.rules := List.getElem_mem _
      generalize g.rules[m]'m3 = S at hS hSm
      rw [hS] at m2
      have hSk : keepR p q S = true := (List.mem_filter.1 (List.mem_of_getElem? m2.symm)).2
      have hR : r.rules[i]? = some (redRule (numO o) S) := by rw [hred.rules, List.getElem?_map, ← m2]; rfl
      have hup := upTo_get (n := r.rules.length) (k := i) (by omega)
      have hgl := hg.rules
      unfold Short at hgl
      simp (disch := omega) only [↓wr, ↓reduceIte, wq, eq_self, ne_eq, implies_true, oneV, intOp, goI, splice, sBuild, fillE, nilB, isNil, Nat.reduceEqDiff, Nat.reduceAdd, Nat.reduceLT, Nat.reduceLeDiff, Int.reduceNeg, Int.reduceToNat, reduceCtorEq, decide_true, decide_false, t1, t3, t4, t7, t12, g3, encI, encG, encS, List.getElem?_map, List.length_map, hup, m1, hkl, hul]
      refine GoB.ne (fun h => absurd rfl h) (fun _ => ?_)
      simp (disch := omega) only [↓wr, ↓reduceIte, wq, eq_self, ne_eq, implies_true, oneV, intOp, goI, splice, sBuild, fillE, nilB, isNil, Nat.reduceEqDiff, Nat.reduceAdd, Nat.reduceLT, Nat.reduceLeDiff, Int.reduceNeg, Int.reduceToNat, reduceCtorEq, decide_true, decide_false, t1, t3, t4, t7, t12, g3, encI, encG, encS, List.getElem?_map, List.length_map, hup, m1, hkl, hul]
      refine GoB.dec (fun h => by omega) (fun _ => ?_)
      simp (disch := omega) only [↓wr, ↓reduceIte, wq, eq_self, ne_eq, implies_true, oneV, intOp, goI, splice, sBuild, fillE, nilB, isNil, Nat.reduceEqDiff, Nat.reduceAdd, Nat.reduceLT, Nat.reduceLeDiff, Int.reduceNeg, Int.reduceToNat, reduceCtorEq, decide_true, decide_false, t1, t3, t4, t7, t12, g3, encI, encG, encS, List.getElem?_map, List.length_map, hup, m1, hkl, hul]
      refine GoB.dec (fun h => by omega) (fun _ => ?_)
      simp (disch := omega) only [↓wr, ↓reduceIte, wq, eq_self, ne_eq, implies_true, oneV, intOp, goI, splice, sBuild, fillE, nilB, isNil, Nat.reduceEqDiff, Nat.reduceAdd, Nat.reduceLT, Nat.reduceLeDiff, Int.reduceNeg, Int.reduceToNat, reduceCtorEq, decide_true, decide_false, t1, t3, t4, t7, t12, g3, encI, encG, encS, List.getElem?_map, List.length_map, hup, m1, hkl, hul]
      refine GoB.dec (fun hpos => ?_) (fun hpos => ?_)
      all_goals try
        have hpos' : 0 < i := by omega
        obtain ⟨m', n1, _, _⟩ := hkg (i - 1) (by omega)
        rw [Int.zero_add] at n1
        have hlt : (m' : Int) < m := by
          have h1 := List.getElem?_eq_some_iff.1 n1
          have h2 := List.getElem?_eq_some_iff.1 m1
          have := List.pairwise_iff_getElem.1 hrise (i - 1) i h1.1 h2.1 (by omega)
          rw [h1.2, h2.2] at this
          exact this
        have n2 : il[((i : Int) - 1).toNat]? = some (m' : Int) := by rw [← n1]; congr 1; omega
        simp (disch := omega) only [↓wr, ↓reduceIte, wq, eq_self, ne_eq, implies_true, oneV, intOp, goI, splice, sBuild, fillE, nilB, isNil, Nat.reduceEqDiff, Nat.reduceAdd, Nat.reduceLT, Nat.reduceLeDiff, Int.reduceNeg, Int.reduceToNat, reduceCtorEq, decide_true, decide_false, t1, t3, t4, t7, t12, g3, encI, encG, encS, List.getElem?_map, List.length_map, hup, m1, n2, hkl, hul]
        refine GoB.dec (fun h => by omega) (fun _ => ?_)
      all_goals
        simp (disch := omega) only [↓wr, ↓reduceIte, wq, eq_self, ne_eq, implies_true, oneV, intOp, goI, splice, sBuild, fillE, nilB, isNil, Nat.reduceEqDiff, Nat.reduceAdd, Nat.reduceLT, Nat.reduceLeDiff, Int.reduceNeg, Int.reduceToNat, reduceCtorEq, decide_true, decide_false, t1, t3, t4, t7, t12, g3, encI, encG, encS, encR, List.getElem?_map, List.length_map, hup, m1, hkl, hul, hS, hR]
        intro n13 h13 n14 h14
        have d43 := (dead_if h14 arr_live).1
        have h14 := (dead_if h14 arr_live).2
        have d3 : n3 ≠ n13 := by rintro rfl; rw [f3] at h13; simp at h13
        have d4 : n3 ≠ n14 := by rintro rfl; rw [f3] at h14; simp at h14
        have hin := hred.kept S hSm hSk
        have hl := numO_lt hin.1
        have hin0 := hred.inside _ hin.1
        have hlen := hred.len
        have hnr := hred.non_at hin.1
        have hng := non_get hin0.1 hin0.2
        generalize g.nons.getD S.left.toNat ⟨#[]⟩ = nm at hnr hng
        have hsr := (hg.rule S hSm).2.2.2
        have hs6 := hf.right S hSm
        try simp (disch := omega) only [↓wr, ↓reduceIte, wq, eq_self, ne_eq, implies_true, oneV, intOp, goI, splice, sBuild, fillE, nilB, isNil, Nat.reduceEqDiff, Nat.reduceAdd, Nat.reduceLT, Nat.reduceLeDiff, Int.reduceNeg, Int.reduceToNat, reduceCtorEq, decide_true, decide_false, t1, t3, t4, t7, t12, g3, encI, encG, encS, encR, redRule, List.length_map, d43, d43.symm, d3, d4]
        refine GoB.ne (fun h => absurd rfl h) (fun _ => ?_)
        simp (disch := omega) only [↓wr, ↓reduceIte, wq, eq_self, ne_eq, implies_true, oneV, intOp, goI, splice, sBuild, fillE, nilB, isNil, Nat.reduceEqDiff, Nat.reduceAdd, Nat.reduceLT, Nat.reduceLeDiff, Int.reduceNeg, Int.reduceToNat, reduceCtorEq, decide_true, decide_false, t1, t3, t4, t7, t12, g3, encI, encG, encS, encR, redRule, List.length_map, d43, d43.symm, d3, d4]
        refine GoB.ne (fun h => absurd rfl h) (fun _ => ?_)
        simp (disch := omega) only [↓wr, ↓reduceIte, wq, eq_self, ne_eq, implies_true, oneV, intOp, goI, splice, sBuild, fillE, nilB, isNil, Nat.reduceEqDiff, Nat.reduceAdd, Nat.reduceLT, Nat.reduceLeDiff, Int.reduceNeg, Int.reduceToNat, reduceCtorEq, decide_true, decide_false, t1, t3, t4, t7, t12, g3, encI, encG, encS, encR, redRule, List.length_map, d43, d43.symm, d3, d4, List.getElem?_map, hnr, hng, strEq_dec]
        refine LoopG.up S.right.length (OnK g r n3 n13 n14 il (redRule (numO o) S) S i) ⟨⟨by simp [View.set, d3, d4, f3], by simp [View.set, d43.symm, encR, redRule, encI], by simp [View.set, encR, encI]⟩, t1, t3, t4, t7, t12, rfl, rfl, rfl⟩ ?_
        clear h13 h14 t1 t3 t4 t7 t12
        rintro j kk T3 H3 hkk ⟨⟨p3, p13, p14⟩, t1, t3, t4, t7, t12, t13, t14, t15⟩
        have q3 := p3
        simp only [encG, encS] at q3
        simp only [encR, redRule, encI] at p13 p14
        simp (disch := omega) only [↓wr, ↓reduceIte, wq, eq_self, ne_eq, implies_true, oneV, intOp, goI, splice, sBuild, fillE, nilB, isNil, Nat.reduceEqDiff, Nat.reduceAdd, Nat.reduceLT, Nat.reduceLeDiff, Int.reduceNeg, Int.reduceToNat, reduceCtorEq, decide_true, decide_false, B_gerundlaw11_TrimOnce_1, t1, t3, t4, t7, t12, t13, t14, t15, p13, p14, List.length_map]
        refine GoB.dec (fun hj => ?_) (fun hj => ?_)
        · have hgs : S.right[j]? = some (S.right[j]'(by omega)) := List.getElem?_eq_getElem (by omega)
          have hms : S.right[j]'(by omega) ∈ S.right := List.getElem_mem _
          generalize S.right[j]'(by omega) = s at hgs hms
          have hnm := hred.name hSm hSk hms
          have hb := numO_bd o (-1 - s)
          have hs64 := hsr s hms
          have hol := int_nodup_len hred.nodup hred.inside
          have hfn := hf.nons
          simp (disch := omega) only [↓wr, ↓reduceIte, wq, eq_self, ne_eq, implies_true, oneV, intOp, goI, splice, sBuild, fillE, nilB, isNil, Nat.reduceEqDiff, Nat.reduceAdd, Nat.reduceLT, Nat.reduceLeDiff, Int.reduceNeg, Int.reduceToNat, reduceCtorEq, decide_true, decide_false, t1, t3, t4, t7, t12, t13, t14, t15, q3, p13, p14, List.getElem?_map, hgs, encG, encS]
          refine CallG.pure (pc_Name09 r (if s < 0 then -1 - numO o (-1 - s) else s) (by
            split
            · unfold In64; omega
            · exact hs64)) (by kernel_rfl) ?_
          rw [hnm]
          simp (disch := omega) only [↓wr, ↓reduceIte, wq, eq_self, ne_eq, implies_true, oneV, intOp, goI, splice, sBuild, fillE, nilB, isNil, Nat.reduceEqDiff, Nat.reduceAdd, Nat.reduceLT, Nat.reduceLeDiff, Int.reduceNeg, Int.reduceToNat, reduceCtorEq, decide_true, decide_false, t1, t3, t4, t7, t12, t13, t14, t15, q3, p13, p14, List.getElem?_map, hgs, encG, encS]
          refine CallG.pure (pc_Name09 g s hs64) (by kernel_rfl) ?_
          simp (disch := omega) only [↓wr, ↓reduceIte, wq, eq_self, ne_eq, implies_true, oneV, intOp, goI, splice, sBuild, fillE, nilB, isNil, Nat.reduceEqDiff, Nat.reduceAdd, Nat.reduceLT, Nat.reduceLeDiff, Int.reduceNeg, Int.reduceToNat, reduceCtorEq, decide_true, decide_false, t1, t3, t4, t7, t12, t13, t14, t15, strEq_dec]
          exact up_next hkk (by omega) ⟨⟨p3, by simpa [encR, redRule, encI] using p13, by simpa [encR, encI] using p14⟩, t1, t3, t4, t7, t12, t13, t14, rfl⟩
        · simp (disch := omega) only [↓wr, ↓reduceIte, wq, eq_self, ne_eq, implies_true, oneV, intOp, goI, splice, sBuild, fillE, nilB, isNil, Nat.reduceEqDiff, Nat.reduceAdd, Nat.reduceLT, Nat.reduceLeDiff, Int.reduceNeg, Int.reduceToNat, reduceCtorEq, decide_true, decide_false, t1, t3, t4, t7, t12, t13, t14, t15]
          exact up_next (hk.trans hkl) (by omega) ⟨p3, t1, t3, t4, t7, rfl⟩
    · have s0 := hfr.start0
      have s1 := hfr.start
      have s2 := hf.start0
      have s3 := hf.start
      have hnr := hred.non_at hred.start
      rw [← hred.startE] at hnr
      have hng := non_get s2 s3
      generalize g.nons.getD g.start.toNat ⟨#[]⟩ = nm at hnr hng
      simp (disch := omega) only [↓wr, ↓reduceIte, wq, eq_self, ne_eq, implies_true, oneV, intOp, goI, splice, sBuild, fillE, nilB, isNil, Nat.reduceEqDiff, Nat.reduceAdd, Nat.reduceLT, Nat.reduceLeDiff, Int.reduceNeg, Int.reduceToNat, reduceCtorEq, decide_true, decide_false, t1, t3, t4, t7, t12, g3, encI, encG, encS, List.getElem?_map, List.length_map, hnr, hng, strEq_dec]

end Gv
