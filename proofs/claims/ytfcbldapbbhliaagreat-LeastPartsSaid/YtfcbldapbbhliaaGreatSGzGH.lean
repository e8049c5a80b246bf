/-
  Part 8 of the proof: what the machine does and what the functions answer.
  Conditions: those that each lemma names.
-/
import Derived.ProofKit
import Derived.SizedLaws
import Derived.Test.YtfcbldapbbhliaaGreatSGzGG
set_option linter.unusedSimpArgs false
set_option linter.unusedVariables false

/-
  What the reader answers at the fixed texts.
  Conditions: none.
-/
set_option linter.unusedSimpArgs false
set_option maxRecDepth 100000
namespace Gv
open Go Go.Proofs
def D_gerundref09_Read : DF := ⟨.seq (.region [] [⟨none, [((some 2), .op (.alloc [(.emp 1), (.emp 1), (.emp 1), (.val (.int .i64 0))])), ((some 3), .op (.mov (.val (.val (.complex .f64 0 0))))), ((some 4), .op (.mov (.val (.val (.int .i64 0)))))]⟩]) <|
  .seq (.region [] [⟨none, [((some 9), .op (.mov (.tmp 0))), ((some 10), .call (.val (.fn 67 [] [])) [(.tmp 9)]), ((some 8), .op (.mov (.tmp 10))), ((some 11), .op (.ext 0 (.tmp 8))), ((some 12), .op (.ext 1 (.tmp 8))), ((some 13), .op (.ext 2 (.tmp 8))), ((some 5), .op (.alloc [(.emp 1), (.emp 1)])), (none, .op (.store 2 (.tmp 5) (.tmp 11))), ((some 6), .op (.mov (.tmp 12))), ((some 7), .op (.mov (.tmp 13)))]⟩]) <|
  .seq (.seq (.region [] [⟨none, [((some 14), .op (.mov (.tmp 7))), ((some 15), .op (.arith .neq (.tmp 14) (.val (.val (.int .i64 0)))))]⟩]) <|
  .cond (.tmp 15) (.seq (.region [] [⟨none, [((some 16), .op (.build [(.emp 1), (.emp 1), (.emp 1), (.val (.int .i64 0))] [])), ((some 17), .op (.mov (.tmp 6))), ((some 18), .op (.mov (.tmp 7))), (none, .op (.store 4 (.tmp 2) (.tmp 16))), ((some 3), .op (.mov (.tmp 17))), ((some 4), .op (.mov (.tmp 18)))]⟩]) <|
  .ret) (.skip)) <|
  .seq (.region [] [⟨none, [((some 19), .op (.load (some 2) (.tmp 5))), ((some 20), .call (.val (.fn 68 [] [])) [(.tmp 19)]), ((some 21), .op (.ext 0 (.tmp 20))), ((some 22), .op (.ext 1 (.tmp 20))), ((some 23), .op (.ext 2 (.tmp 20))), (none, .op (.store 4 (.tmp 2) (.tmp 21))), ((some 3), .op (.mov (.tmp 22))), ((some 4), .op (.mov (.tmp 23)))]⟩]) <|
  .ret,
  [.cell 2 (some 4), .tmp 3, .tmp 4], 24⟩
theorem D_gerundref09_Read_ok : compDF Tryz.prog 40 [] = some D_gerundref09_Read := by kernel_rfl

def D_gerundref08_Parse : DF := ⟨.seq (.region [] [⟨none, [((some 2), .op (.alloc [(.emp 1), (.emp 1)])), ((some 3), .op (.mov (.val (.val (.complex .f64 0 0))))), ((some 4), .op (.mov (.val (.val (.int .i64 0)))))]⟩]) <|
  .seq (.region [] [⟨none, [((some 9), .op (.mov (.tmp 0))), ((some 10), .call (.val (.fn 95 [] [])) [(.tmp 9)]), ((some 8), .op (.mov (.tmp 10))), ((some 11), .op (.ext 0 (.tmp 8))), ((some 12), .op (.ext 1 (.tmp 8))), ((some 13), .op (.ext 2 (.tmp 8))), ((some 5), .op (.mov (.tmp 11))), ((some 6), .op (.mov (.tmp 12))), ((some 7), .op (.mov (.tmp 13)))]⟩]) <|
  .seq (.seq (.region [] [⟨none, [((some 14), .op (.mov (.tmp 7))), ((some 15), .op (.arith .neq (.tmp 14) (.val (.val (.int .i64 0)))))]⟩]) <|
  .cond (.tmp 15) (.seq (.region [] [⟨none, [((some 16), .op (.build [(.emp 1), (.emp 1)] [])), ((some 17), .op (.mov (.tmp 6))), ((some 18), .op (.mov (.tmp 7))), (none, .op (.store 2 (.tmp 2) (.tmp 16))), ((some 3), .op (.mov (.tmp 17))), ((some 4), .op (.mov (.tmp 18)))]⟩]) <|
  .ret) (.skip)) <|
  .seq (.region [] [⟨none, [((some 19), .op (.mov (.tmp 5))), ((some 20), .op (.mov (.tmp 6))), ((some 21), .call (.val (.fn 96 [] [])) [(.tmp 19), (.tmp 20)]), ((some 22), .op (.ext 0 (.tmp 21))), ((some 23), .op (.ext 1 (.tmp 21))), ((some 24), .op (.ext 2 (.tmp 21))), (none, .op (.store 2 (.tmp 2) (.tmp 22))), ((some 3), .op (.mov (.tmp 23))), ((some 4), .op (.mov (.tmp 24)))]⟩]) <|
  .ret,
  [.cell 2 (some 2), .tmp 3, .tmp 4], 25⟩
theorem D_gerundref08_Parse_ok : compDF Tryz.prog 67 [] = some D_gerundref08_Parse := by kernel_rfl

def E_gerundref07_Tokens_0 : DC :=
  .seq (.seq (.region [] [⟨none, [((some 16), .op (.mov (.tmp 6))), ((some 17), .op (.mov (.tmp 0))), ((some 18), .op (.len (.tmp 17))), ((some 19), .op (.arith .lss (.tmp 16) (.tmp 18))), ((some 20), .op (.mov (.tmp 19)))]⟩, ⟨(some (20, true)), [((some 21), .op (.mov (.tmp 7))), ((some 22), .op (.arith .lss (.tmp 21) (.val (.val (.int .i64 2)))))]⟩, ⟨none, [((some 23), .op (.pick (.tmp 20) (.tmp 22) (.val (.val (.bool false)))))]⟩]) <|
  .cond (.tmp 23) (.skip) (.exit 0)) <|
  .block 1 (.seq (.region [] [⟨none, [((some 25), .op (.mov (.tmp 0))), ((some 26), .op (.mov (.tmp 6))), ((some 27), .call (.val (.fn 115 [] [])) [(.tmp 25), (.tmp 26)]), ((some 24), .op (.mov (.tmp 27))), ((some 28), .op (.ext 0 (.tmp 24))), ((some 29), .op (.ext 1 (.tmp 24))), ((some 8), .op (.mov (.tmp 28))), ((some 9), .op (.mov (.tmp 29)))]⟩]) <|
  .seq (.seq (.region [] [⟨none, [((some 30), .op (.mov (.tmp 8))), ((some 31), .op (.arith .lss (.tmp 30) (.val (.val (.int .i64 0)))))]⟩]) <|
  .cond (.tmp 31) (.seq (.region [] [⟨none, [((some 32), .op (.mov (.tmp 0))), ((some 33), .op (.mov (.tmp 6))), ((some 34), .call (.val (.fn 116 [] [])) [(.tmp 32), (.tmp 33)]), ((some 2), .op (.mov (.val (.emp 1)))), ((some 3), .op (.mov (.tmp 34))), ((some 4), .op (.mov (.val (.val (.int .i64 4)))))]⟩]) <|
  .ret) (.skip)) <|
  .seq (.seq (.region [] [⟨none, [((some 35), .op (.mov (.tmp 9)))]⟩]) <|
  .cond (.tmp 35) (.seq (.region [] [⟨none, [((some 36), .op (.mov (.tmp 8))), ((some 6), .op (.mov (.tmp 36)))]⟩]) <|
  .exit 1) (.skip)) <|
  .seq (.region [] [⟨none, [((some 38), .op (.mov (.tmp 0))), ((some 39), .op (.mov (.tmp 6))), ((some 40), .call (.val (.fn 117 [] [])) [(.tmp 38), (.tmp 39)]), ((some 37), .op (.mov (.tmp 40))), ((some 41), .op (.ext 0 (.tmp 37))), ((some 42), .op (.ext 1 (.tmp 37))), ((some 43), .op (.ext 2 (.tmp 37))), ((some 10), .op (.alloc [(.val (.int .i64 0)), (.val (.string ⟨#[]⟩)), (.val (.complex .f64 0 0))])), (none, .op (.store 3 (.tmp 10) (.tmp 41))), ((some 11), .op (.mov (.tmp 42))), ((some 12), .op (.mov (.tmp 43)))]⟩]) <|
  .seq (.seq (.region [] [⟨none, [((some 44), .op (.mov (.tmp 12))), ((some 45), .op (.arith .neq (.tmp 44) (.val (.val (.int .i64 0)))))]⟩]) <|
  .cond (.tmp 45) (.seq (.region [] [⟨none, [((some 46), .op (.addr 2 (.tmp 10))), ((some 47), .op (.load none (.tmp 46))), ((some 48), .op (.mov (.tmp 12))), ((some 2), .op (.mov (.val (.emp 1)))), ((some 3), .op (.mov (.tmp 47))), ((some 4), .op (.mov (.tmp 48)))]⟩]) <|
  .ret) (.skip)) <|
  .seq (.seq (.region [] [⟨none, [((some 49), .op (.addr 0 (.tmp 10))), ((some 50), .op (.load none (.tmp 49))), ((some 51), .op (.arith .eql (.tmp 50) (.val (.val (.int .i64 9)))))]⟩]) <|
  .cond (.tmp 51) (.region [] [⟨none, [((some 52), .op (.mov (.tmp 7))), ((some 53), .op (.arith .add (.tmp 52) (.val (.val (.int .i64 1))))), ((some 7), .op (.mov (.tmp 53)))]⟩]) (.skip)) <|
  .region [] [⟨none, [((some 54), .op (.mov (.tmp 5))), ((some 55), .op (.load (some 3) (.tmp 10))), ((some 56), .op (.bslice 1 3 [(.val (.int .i64 0)), (.val (.string ⟨#[]⟩)), (.val (.complex .f64 0 0))] [(0, (.tmp 55))])), ((some 57), .op (.app 3 40 (.tmp 54) (.tmp 56))), ((some 58), .op (.mov (.tmp 11))), ((some 5), .op (.mov (.tmp 57))), ((some 6), .op (.mov (.tmp 58)))]⟩])
def D_gerundref07_Tokens : DF := ⟨.seq (.region [] [⟨none, [((some 2), .op (.mov (.val (.emp 1)))), ((some 3), .op (.mov (.val (.val (.complex .f64 0 0))))), ((some 4), .op (.mov (.val (.val (.int .i64 0)))))]⟩]) <|
  .seq (.seq (.region [] [⟨none, [((some 13), .op (.mov (.tmp 0))), ((some 14), .op (.len (.tmp 13))), ((some 15), .op (.arith .gtr (.tmp 14) (.val (.val (.int .i64 4000)))))]⟩]) <|
  .cond (.tmp 15) (.seq (.region [] [⟨none, [((some 2), .op (.mov (.val (.emp 1)))), ((some 3), .op (.mov (.val (.val (.complex .f64 0 0))))), ((some 4), .op (.mov (.val (.val (.int .i64 5)))))]⟩]) <|
  .ret) (.skip)) <|
  .seq (.region [] [⟨none, [((some 5), .op (.mov (.val (.emp 1))))]⟩]) <|
  .seq (.region [] [⟨none, [((some 6), .op (.mov (.val (.val (.int .i64 0))))), ((some 7), .op (.mov (.val (.val (.int .i64 0)))))]⟩]) <|
  .seq (.block 0 (.loop E_gerundref07_Tokens_0)) <|
  .seq (.region [] [⟨none, [((some 59), .op (.mov (.tmp 5))), ((some 60), .op (.mov (.tmp 0))), ((some 61), .op (.mov (.tmp 0))), ((some 62), .op (.len (.tmp 61))), ((some 63), .call (.val (.fn 116 [] [])) [(.tmp 60), (.tmp 62)]), ((some 2), .op (.mov (.tmp 59))), ((some 3), .op (.mov (.tmp 63))), ((some 4), .op (.mov (.val (.val (.int .i64 0)))))]⟩]) <|
  .ret,
  [.tmp 2, .tmp 3, .tmp 4], 64⟩
theorem D_gerundref07_Tokens_ok : compDF Tryz.prog 95 [] = some D_gerundref07_Tokens := by kernel_rfl

def D_gerundref07_skip : DF := ⟨.seq (.region [] [⟨none, [((some 4), .op (.mov (.val (.val (.int .i64 0))))), ((some 5), .op (.mov (.val (.val (.bool false)))))]⟩]) <|
  .seq (.block 0 (.seq (.region [] [⟨none, [((some 7), .op (.mov (.tmp 0))), ((some 8), .op (.mov (.tmp 1))), ((some 9), .op (.idx 1 (.tmp 7) (.tmp 8))), ((some 10), .op (.load none (.tmp 9))), ((some 11), .op (.arith .eql (.tmp 10) (.val (.val (.int .u8 32))))), ((some 12), .op (.mov (.tmp 11)))]⟩, ⟨(some (12, false)), [((some 13), .op (.mov (.tmp 0))), ((some 14), .op (.mov (.tmp 1))), ((some 15), .op (.idx 1 (.tmp 13) (.tmp 14))), ((some 16), .op (.load none (.tmp 15))), ((some 17), .op (.arith .eql (.tmp 16) (.val (.val (.int .u8 9)))))]⟩, ⟨none, [((some 18), .op (.pick (.tmp 12) (.val (.val (.bool true))) (.tmp 17))), ((some 19), .op (.mov (.tmp 18)))]⟩, ⟨(some (19, false)), [((some 20), .op (.mov (.tmp 0))), ((some 21), .op (.mov (.tmp 1))), ((some 22), .op (.idx 1 (.tmp 20) (.tmp 21))), ((some 23), .op (.load none (.tmp 22))), ((some 24), .op (.arith .eql (.tmp 23) (.val (.val (.int .u8 10)))))]⟩, ⟨none, [((some 25), .op (.pick (.tmp 19) (.val (.val (.bool true))) (.tmp 24))), ((some 26), .op (.mov (.tmp 25)))]⟩, ⟨(some (26, false)), [((some 27), .op (.mov (.tmp 0))), ((some 28), .op (.mov (.tmp 1))), ((some 29), .op (.idx 1 (.tmp 27) (.tmp 28))), ((some 30), .op (.load none (.tmp 29))), ((some 31), .op (.arith .eql (.tmp 30) (.val (.val (.int .u8 13)))))]⟩, ⟨none, [((some 32), .op (.pick (.tmp 26) (.val (.val (.bool true))) (.tmp 31))), ((some 6), .op (.mov (.tmp 32)))]⟩]) <|
  .cond (.tmp 6) (.seq (.region [] [⟨none, [((some 33), .op (.mov (.tmp 1))), ((some 34), .op (.arith .add (.tmp 33) (.val (.val (.int .i64 1))))), ((some 4), .op (.mov (.tmp 34))), ((some 5), .op (.mov (.val (.val (.bool true)))))]⟩]) <|
  .ret) (.seq (.region [] [⟨none, [((some 36), .op (.mov (.tmp 0))), ((some 37), .op (.mov (.tmp 1))), ((some 38), .call (.val (.fn 131 [] [])) [(.tmp 36), (.tmp 37), (.val (.val (.string ⟨#[47, 42]⟩)))]), ((some 35), .op (.mov (.tmp 38)))]⟩]) <|
  .cond (.tmp 35) (.seq (.region [] [⟨none, [((some 39), .op (.mov (.tmp 0))), ((some 40), .op (.mov (.tmp 1))), ((some 41), .op (.arith .add (.tmp 40) (.val (.val (.int .i64 2))))), ((some 42), .call (.val (.fn 132 [] [])) [(.tmp 39), (.tmp 41), (.val (.val (.string ⟨#[42, 47]⟩)))]), ((some 4), .op (.mov (.tmp 42))), ((some 5), .op (.mov (.val (.val (.bool true)))))]⟩]) <|
  .ret) (.seq (.region [] [⟨none, [((some 44), .op (.mov (.tmp 0))), ((some 45), .op (.mov (.tmp 1))), ((some 46), .call (.val (.fn 131 [] [])) [(.tmp 44), (.tmp 45), (.val (.val (.string ⟨#[47, 47]⟩)))]), ((some 43), .op (.mov (.tmp 46)))]⟩]) <|
  .cond (.tmp 43) (.seq (.region [] [⟨none, [((some 47), .op (.mov (.tmp 0))), ((some 48), .op (.mov (.tmp 1))), ((some 49), .call (.val (.fn 133 [] [])) [(.tmp 47), (.tmp 48)]), ((some 4), .op (.mov (.tmp 49))), ((some 5), .op (.mov (.val (.val (.bool true)))))]⟩]) <|
  .ret) (.seq (.region [] [⟨none, [((some 51), .op (.mov (.tmp 0))), ((some 52), .op (.mov (.tmp 1))), ((some 53), .call (.val (.fn 131 [] [])) [(.tmp 51), (.tmp 52), (.val (.val (.string ⟨#[37, 123]⟩)))]), ((some 50), .op (.mov (.tmp 53)))]⟩]) <|
  .cond (.tmp 50) (.seq (.region [] [⟨none, [((some 54), .op (.mov (.tmp 0))), ((some 55), .op (.mov (.tmp 1))), ((some 56), .op (.arith .add (.tmp 55) (.val (.val (.int .i64 2))))), ((some 57), .call (.val (.fn 132 [] [])) [(.tmp 54), (.tmp 56), (.val (.val (.string ⟨#[37, 125]⟩)))]), ((some 4), .op (.mov (.tmp 57))), ((some 5), .op (.mov (.val (.val (.bool true)))))]⟩]) <|
  .ret) (.seq (.region [] [⟨none, [((some 59), .op (.mov (.tmp 0))), ((some 60), .op (.mov (.tmp 1))), ((some 61), .op (.idx 1 (.tmp 59) (.tmp 60))), ((some 62), .op (.load none (.tmp 61))), ((some 63), .op (.arith .eql (.tmp 62) (.val (.val (.int .u8 60))))), ((some 58), .op (.mov (.tmp 63)))]⟩]) <|
  .cond (.tmp 58) (.seq (.region [] [⟨none, [((some 64), .op (.mov (.tmp 0))), ((some 65), .op (.mov (.tmp 0))), ((some 66), .op (.mov (.tmp 1))), ((some 67), .call (.val (.fn 133 [] [])) [(.tmp 65), (.tmp 66)]), ((some 68), .op (.slice 1 (.tmp 64) none (some (.tmp 67)))), ((some 69), .op (.mov (.tmp 1))), ((some 70), .op (.arith .add (.tmp 69) (.val (.val (.int .i64 1))))), ((some 71), .call (.val (.fn 132 [] [])) [(.tmp 68), (.tmp 70), (.val (.val (.string ⟨#[62]⟩)))]), ((some 4), .op (.mov (.tmp 71))), ((some 5), .op (.mov (.val (.val (.bool true)))))]⟩]) <|
  .ret) (.seq (.region [] [⟨none, [((some 73), .op (.mov (.tmp 0))), ((some 74), .op (.mov (.tmp 1))), ((some 75), .op (.idx 1 (.tmp 73) (.tmp 74))), ((some 76), .op (.load none (.tmp 75))), ((some 77), .op (.arith .eql (.tmp 76) (.val (.val (.int .u8 123))))), ((some 72), .op (.mov (.tmp 77)))]⟩]) <|
  .cond (.tmp 72) (.seq (.region [] [⟨none, [((some 78), .op (.mov (.tmp 0))), ((some 79), .op (.mov (.tmp 1))), ((some 80), .call (.val (.fn 134 [] [])) [(.tmp 78), (.tmp 79)]), ((some 4), .op (.mov (.tmp 80))), ((some 5), .op (.mov (.val (.val (.bool true)))))]⟩]) <|
  .ret) (.skip)))))))) <|
  .seq (.region [] [⟨none, [((some 81), .op (.mov (.tmp 1))), ((some 4), .op (.mov (.tmp 81))), ((some 5), .op (.mov (.val (.val (.bool false)))))]⟩]) <|
  .ret,
  [.tmp 4, .tmp 5], 82⟩
theorem D_gerundref07_skip_ok : compDF Tryz.prog 115 [] = some D_gerundref07_skip := by kernel_rfl

def D_gerundref07_has : DF := ⟨.seq (.region [] [⟨none, [((some 6), .op (.mov (.val (.val (.bool false)))))]⟩]) <|
  .seq (.region [] [⟨none, [((some 7), .op (.mov (.tmp 1))), ((some 8), .op (.mov (.tmp 2))), ((some 9), .op (.lenS (.tmp 8))), ((some 10), .op (.arith .add (.tmp 7) (.tmp 9))), ((some 11), .op (.mov (.tmp 0))), ((some 12), .op (.len (.tmp 11))), ((some 13), .op (.arith .leq (.tmp 10) (.tmp 12))), ((some 14), .op (.mov (.tmp 13)))]⟩, ⟨(some (14, true)), [((some 15), .op (.mov (.tmp 0))), ((some 16), .op (.mov (.tmp 1))), ((some 17), .op (.mov (.tmp 1))), ((some 18), .op (.mov (.tmp 2))), ((some 19), .op (.lenS (.tmp 18))), ((some 20), .op (.arith .add (.tmp 17) (.tmp 19))), ((some 21), .op (.slice 1 (.tmp 15) (some (.tmp 16)) (some (.tmp 20)))), ((some 22), .op (.old (.convert 53 9 (.tmp 21)) 9)), ((some 23), .op (.mov (.tmp 2))), ((some 24), .op (.sop .eql (.tmp 22) (.tmp 23)))]⟩, ⟨none, [((some 25), .op (.pick (.tmp 14) (.tmp 24) (.val (.val (.bool false))))), ((some 6), .op (.mov (.tmp 25)))]⟩]) <|
  .ret,
  [.tmp 6], 26⟩
theorem D_gerundref07_has_ok : compDF Tryz.prog 131 [] = some D_gerundref07_has := by kernel_rfl

def E_gerundref07_past_0 : DC :=
  .seq (.seq (.region [] [⟨none, [((some 7), .op (.mov (.tmp 1))), ((some 8), .op (.mov (.tmp 0))), ((some 9), .op (.len (.tmp 8))), ((some 10), .op (.arith .lss (.tmp 7) (.tmp 9)))]⟩]) <|
  .cond (.tmp 10) (.skip) (.exit 0)) <|
  .block 1 (.seq (.seq (.region [] [⟨none, [((some 11), .op (.mov (.tmp 0))), ((some 12), .op (.mov (.tmp 1))), ((some 13), .op (.mov (.tmp 2))), ((some 14), .call (.val (.fn 131 [] [])) [(.tmp 11), (.tmp 12), (.tmp 13)])]⟩]) <|
  .cond (.tmp 14) (.seq (.region [] [⟨none, [((some 15), .op (.mov (.tmp 1))), ((some 16), .op (.mov (.tmp 2))), ((some 17), .op (.lenS (.tmp 16))), ((some 18), .op (.arith .add (.tmp 15) (.tmp 17))), ((some 6), .op (.mov (.tmp 18)))]⟩]) <|
  .ret) (.skip)) <|
  .region [] [⟨none, [((some 19), .op (.mov (.tmp 1))), ((some 20), .op (.arith .add (.tmp 19) (.val (.val (.int .i64 1))))), ((some 1), .op (.mov (.tmp 20)))]⟩])
def D_gerundref07_past : DF := ⟨.seq (.region [] [⟨none, [((some 6), .op (.mov (.val (.val (.int .i64 0)))))]⟩]) <|
  .seq (.block 0 (.loop E_gerundref07_past_0)) <|
  .seq (.region [] [⟨none, [((some 6), .op (.mov (.val (.val (.int .i64 (-1))))))]⟩]) <|
  .ret,
  [.tmp 6], 21⟩
theorem D_gerundref07_past_ok : compDF Tryz.prog 132 [] = some D_gerundref07_past := by kernel_rfl

def E_gerundref07_line_0 : DC :=
  .seq (.seq (.region [] [⟨none, [((some 5), .op (.mov (.tmp 1))), ((some 6), .op (.mov (.tmp 0))), ((some 7), .op (.len (.tmp 6))), ((some 8), .op (.arith .lss (.tmp 5) (.tmp 7))), ((some 9), .op (.mov (.tmp 8)))]⟩, ⟨(some (9, true)), [((some 10), .op (.mov (.tmp 0))), ((some 11), .op (.mov (.tmp 1))), ((some 12), .op (.idx 1 (.tmp 10) (.tmp 11))), ((some 13), .op (.load none (.tmp 12))), ((some 14), .op (.arith .neq (.tmp 13) (.val (.val (.int .u8 10)))))]⟩, ⟨none, [((some 15), .op (.pick (.tmp 9) (.tmp 14) (.val (.val (.bool false)))))]⟩]) <|
  .cond (.tmp 15) (.skip) (.exit 0)) <|
  .block 1 (.region [] [⟨none, [((some 16), .op (.mov (.tmp 1))), ((some 17), .op (.arith .add (.tmp 16) (.val (.val (.int .i64 1))))), ((some 1), .op (.mov (.tmp 17)))]⟩])
def D_gerundref07_line : DF := ⟨.seq (.region [] [⟨none, [((some 4), .op (.mov (.val (.val (.int .i64 0)))))]⟩]) <|
  .seq (.block 0 (.loop E_gerundref07_line_0)) <|
  .seq (.region [] [⟨none, [((some 18), .op (.mov (.tmp 1))), ((some 4), .op (.mov (.tmp 18)))]⟩]) <|
  .ret,
  [.tmp 4], 19⟩
theorem D_gerundref07_line_ok : compDF Tryz.prog 133 [] = some D_gerundref07_line := by kernel_rfl

def E_gerundref07_action_0 : DC :=
  .seq (.seq (.region [] [⟨none, [((some 6), .op (.mov (.tmp 1))), ((some 7), .op (.arith .geq (.tmp 6) (.val (.val (.int .i64 0))))), ((some 8), .op (.mov (.tmp 7)))]⟩, ⟨(some (8, true)), [((some 9), .op (.mov (.tmp 1))), ((some 10), .op (.mov (.tmp 0))), ((some 11), .op (.len (.tmp 10))), ((some 12), .op (.arith .lss (.tmp 9) (.tmp 11)))]⟩, ⟨none, [((some 13), .op (.pick (.tmp 8) (.tmp 12) (.val (.val (.bool false)))))]⟩]) <|
  .cond (.tmp 13) (.skip) (.exit 0)) <|
  .block 1 (.seq (.seq (.region [] [⟨none, [((some 14), .op (.mov (.tmp 0))), ((some 15), .op (.mov (.tmp 1))), ((some 16), .op (.idx 1 (.tmp 14) (.tmp 15))), ((some 17), .op (.load none (.tmp 16)))]⟩]) <|
  .block 2 (.seq (.region [] [⟨none, [((some 21), .op (.arith .eql (.tmp 17) (.val (.val (.int .u8 123))))), ((some 20), .op (.mov (.tmp 21)))]⟩]) <|
  .cond (.tmp 20) (.seq (.region [] [⟨none, [((some 22), .op (.mov (.tmp 5))), ((some 23), .op (.arith .add (.tmp 22) (.val (.val (.int .i64 1))))), ((some 5), .op (.mov (.tmp 23)))]⟩]) <|
  .region [] [⟨none, [((some 24), .op (.mov (.tmp 1))), ((some 25), .op (.arith .add (.tmp 24) (.val (.val (.int .i64 1))))), ((some 1), .op (.mov (.tmp 25)))]⟩]) (.seq (.region [] [⟨none, [((some 27), .op (.arith .eql (.tmp 17) (.val (.val (.int .u8 125))))), ((some 26), .op (.mov (.tmp 27)))]⟩]) <|
  .cond (.tmp 26) (.seq (.region [] [⟨none, [((some 28), .op (.mov (.tmp 5))), ((some 29), .op (.arith .sub (.tmp 28) (.val (.val (.int .i64 1))))), ((some 5), .op (.mov (.tmp 29)))]⟩]) <|
  .region [] [⟨none, [((some 30), .op (.mov (.tmp 1))), ((some 31), .op (.arith .add (.tmp 30) (.val (.val (.int .i64 1))))), ((some 1), .op (.mov (.tmp 31)))]⟩]) (.seq (.seq (.region [] [⟨none, [((some 33), .op (.arith .eql (.tmp 17) (.val (.val (.int .u8 39))))), ((some 32), .op (.mov (.tmp 33)))]⟩]) <|
  .cond (.tmp 32) (.skip) (.region [] [⟨none, [((some 34), .op (.arith .eql (.tmp 17) (.val (.val (.int .u8 34))))), ((some 32), .op (.mov (.tmp 34)))]⟩])) <|
  .cond (.tmp 32) (.region [] [⟨none, [((some 35), .op (.mov (.tmp 0))), ((some 36), .op (.mov (.tmp 1))), ((some 37), .call (.val (.fn 147 [] [])) [(.tmp 35), (.tmp 36)]), ((some 1), .op (.mov (.tmp 37)))]⟩]) (.region [] [⟨none, [((some 18), .op (.mov (.tmp 1))), ((some 19), .op (.arith .add (.tmp 18) (.val (.val (.int .i64 1))))), ((some 1), .op (.mov (.tmp 19)))]⟩]))))) <|
  .seq (.region [] [⟨none, [((some 38), .op (.mov (.tmp 5))), ((some 39), .op (.arith .eql (.tmp 38) (.val (.val (.int .i64 0))))), ((some 40), .op (.mov (.tmp 39)))]⟩, ⟨(some (40, true)), [((some 41), .op (.mov (.tmp 1))), ((some 42), .op (.arith .geq (.tmp 41) (.val (.val (.int .i64 0)))))]⟩, ⟨none, [((some 43), .op (.pick (.tmp 40) (.tmp 42) (.val (.val (.bool false)))))]⟩]) <|
  .cond (.tmp 43) (.seq (.region [] [⟨none, [((some 44), .op (.mov (.tmp 1))), ((some 4), .op (.mov (.tmp 44)))]⟩]) <|
  .ret) (.skip))
def D_gerundref07_action : DF := ⟨.seq (.region [] [⟨none, [((some 4), .op (.mov (.val (.val (.int .i64 0)))))]⟩]) <|
  .seq (.region [] [⟨none, [((some 5), .op (.mov (.val (.val (.int .i64 0)))))]⟩]) <|
  .seq (.block 0 (.loop E_gerundref07_action_0)) <|
  .seq (.region [] [⟨none, [((some 4), .op (.mov (.val (.val (.int .i64 (-1))))))]⟩]) <|
  .ret,
  [.tmp 4], 45⟩
theorem D_gerundref07_action_ok : compDF Tryz.prog 134 [] = some D_gerundref07_action := by kernel_rfl

def E_gerundref07_quoted_0 : DC :=
  .seq (.seq (.region [] [⟨none, [((some 12), .op (.mov (.tmp 1))), ((some 13), .op (.mov (.tmp 0))), ((some 14), .op (.len (.tmp 13))), ((some 15), .op (.arith .lss (.tmp 12) (.tmp 14)))]⟩]) <|
  .cond (.tmp 15) (.skip) (.exit 0)) <|
  .block 1 (.seq (.seq (.region [] [⟨none, [((some 16), .op (.mov (.tmp 0))), ((some 17), .op (.mov (.tmp 1))), ((some 18), .op (.idx 1 (.tmp 16) (.tmp 17))), ((some 19), .op (.load none (.tmp 18))), ((some 20), .op (.mov (.tmp 5))), ((some 21), .op (.arith .eql (.tmp 19) (.tmp 20)))]⟩]) <|
  .cond (.tmp 21) (.seq (.region [] [⟨none, [((some 22), .op (.mov (.tmp 1))), ((some 23), .op (.arith .add (.tmp 22) (.val (.val (.int .i64 1))))), ((some 4), .op (.mov (.tmp 23)))]⟩]) <|
  .ret) (.skip)) <|
  .seq (.seq (.region [] [⟨none, [((some 24), .op (.mov (.tmp 0))), ((some 25), .op (.mov (.tmp 1))), ((some 26), .op (.idx 1 (.tmp 24) (.tmp 25))), ((some 27), .op (.load none (.tmp 26))), ((some 28), .op (.arith .eql (.tmp 27) (.val (.val (.int .u8 92)))))]⟩]) <|
  .cond (.tmp 28) (.region [] [⟨none, [((some 29), .op (.mov (.tmp 1))), ((some 30), .op (.arith .add (.tmp 29) (.val (.val (.int .i64 1))))), ((some 1), .op (.mov (.tmp 30)))]⟩]) (.skip)) <|
  .region [] [⟨none, [((some 31), .op (.mov (.tmp 1))), ((some 32), .op (.arith .add (.tmp 31) (.val (.val (.int .i64 1))))), ((some 1), .op (.mov (.tmp 32)))]⟩])
def D_gerundref07_quoted : DF := ⟨.seq (.region [] [⟨none, [((some 4), .op (.mov (.val (.val (.int .i64 0)))))]⟩]) <|
  .seq (.region [] [⟨none, [((some 6), .op (.mov (.tmp 0))), ((some 7), .op (.mov (.tmp 1))), ((some 8), .op (.idx 1 (.tmp 6) (.tmp 7))), ((some 9), .op (.load none (.tmp 8))), ((some 5), .op (.mov (.tmp 9)))]⟩]) <|
  .seq (.region [] [⟨none, [((some 10), .op (.mov (.tmp 1))), ((some 11), .op (.arith .add (.tmp 10) (.val (.val (.int .i64 1))))), ((some 1), .op (.mov (.tmp 11)))]⟩]) <|
  .seq (.block 0 (.loop E_gerundref07_quoted_0)) <|
  .seq (.region [] [⟨none, [((some 4), .op (.mov (.val (.val (.int .i64 (-1))))))]⟩]) <|
  .ret,
  [.tmp 4], 33⟩
theorem D_gerundref07_quoted_ok : compDF Tryz.prog 147 [] = some D_gerundref07_quoted := by kernel_rfl

def E_gerundref06_At_0 : DC :=
  .seq (.seq (.region [] [⟨none, [((some 16), .op (.mov (.tmp 7))), ((some 17), .op (.mov (.tmp 1))), ((some 18), .op (.arith .lss (.tmp 16) (.tmp 17)))]⟩]) <|
  .cond (.tmp 18) (.skip) (.exit 0)) <|
  .seq (.block 1 (.seq (.region [] [⟨none, [((some 21), .op (.mov (.tmp 6))), ((some 22), .op (.arith .add (.tmp 21) (.val (.val (.int .i64 1))))), ((some 6), .op (.mov (.tmp 22)))]⟩]) <|
  .seq (.region [] [⟨none, [((some 23), .op (.mov (.tmp 0))), ((some 24), .op (.mov (.tmp 7))), ((some 25), .op (.idx 1 (.tmp 23) (.tmp 24))), ((some 26), .op (.load none (.tmp 25))), ((some 27), .op (.arith .eql (.tmp 26) (.val (.val (.int .u8 10)))))]⟩]) <|
  .cond (.tmp 27) (.region [] [⟨none, [((some 28), .op (.mov (.tmp 5))), ((some 29), .op (.arith .add (.tmp 28) (.val (.val (.int .i64 1))))), ((some 5), .op (.mov (.tmp 29))), ((some 6), .op (.mov (.val (.val (.int .i64 1)))))]⟩]) (.skip))) <|
  .region [] [⟨none, [((some 19), .op (.mov (.tmp 7))), ((some 20), .op (.arith .add (.tmp 19) (.val (.val (.int .i64 1))))), ((some 7), .op (.mov (.tmp 20)))]⟩]
def D_gerundref06_At : DF := ⟨.seq (.region [] [⟨none, [((some 4), .op (.mov (.val (.val (.complex .f64 0 0)))))]⟩]) <|
  .seq (.seq (.region [] [⟨none, [((some 8), .op (.mov (.tmp 1))), ((some 9), .op (.arith .lss (.tmp 8) (.val (.val (.int .i64 0))))), ((some 10), .op (.mov (.tmp 9)))]⟩, ⟨(some (10, false)), [((some 11), .op (.mov (.tmp 1))), ((some 12), .op (.mov (.tmp 0))), ((some 13), .op (.len (.tmp 12))), ((some 14), .op (.arith .gtr (.tmp 11) (.tmp 13)))]⟩, ⟨none, [((some 15), .op (.pick (.tmp 10) (.val (.val (.bool true))) (.tmp 14)))]⟩]) <|
  .cond (.tmp 15) (.seq (.region [] [⟨none, [((some 4), .op (.mov (.val (.val (.complex .f64 0 0)))))]⟩]) <|
  .ret) (.skip)) <|
  .seq (.region [] [⟨none, [((some 5), .op (.mov (.val (.val (.int .i64 1))))), ((some 6), .op (.mov (.val (.val (.int .i64 1)))))]⟩]) <|
  .seq (.seq (.region [] [⟨none, [((some 7), .op (.mov (.val (.val (.int .i64 0)))))]⟩]) <|
  .block 0 (.loop E_gerundref06_At_0)) <|
  .seq (.region [] [⟨none, [((some 30), .op (.mov (.tmp 5))), ((some 31), .op (.mov (.tmp 6))), ((some 32), .call (.val (.fn 135 [] [])) [(.tmp 30), (.tmp 31)]), ((some 4), .op (.mov (.tmp 32)))]⟩]) <|
  .ret,
  [.tmp 4], 33⟩
theorem D_gerundref06_At_ok : compDF Tryz.prog 116 [] = some D_gerundref06_At := by kernel_rfl

def D_gerundref06_Of : DF := ⟨.seq (.region [] [⟨none, [((some 4), .op (.mov (.val (.val (.complex .f64 0 0)))))]⟩]) <|
  .seq (.seq (.region [] [⟨none, [((some 5), .op (.mov (.tmp 0))), ((some 6), .op (.arith .lss (.tmp 5) (.val (.val (.int .i64 1))))), ((some 7), .op (.mov (.tmp 6)))]⟩, ⟨(some (7, false)), [((some 8), .op (.mov (.tmp 0))), ((some 9), .op (.arith .gtr (.tmp 8) (.val (.val (.int .i64 1073741824)))))]⟩, ⟨none, [((some 10), .op (.pick (.tmp 7) (.val (.val (.bool true))) (.tmp 9))), ((some 11), .op (.mov (.tmp 10)))]⟩, ⟨(some (11, false)), [((some 12), .op (.mov (.tmp 1))), ((some 13), .op (.arith .lss (.tmp 12) (.val (.val (.int .i64 1)))))]⟩, ⟨none, [((some 14), .op (.pick (.tmp 11) (.val (.val (.bool true))) (.tmp 13))), ((some 15), .op (.mov (.tmp 14)))]⟩, ⟨(some (15, false)), [((some 16), .op (.mov (.tmp 1))), ((some 17), .op (.arith .gtr (.tmp 16) (.val (.val (.int .i64 1073741824)))))]⟩, ⟨none, [((some 18), .op (.pick (.tmp 15) (.val (.val (.bool true))) (.tmp 17)))]⟩]) <|
  .cond (.tmp 18) (.seq (.region [] [⟨none, [((some 4), .op (.mov (.val (.val (.complex .f64 0 0)))))]⟩]) <|
  .ret) (.skip)) <|
  .seq (.region [] [⟨none, [((some 19), .op (.mov (.tmp 0))), ((some 20), .op (.old (.convert 3 176 (.tmp 19)) 176)), ((some 21), .op (.mov (.tmp 1))), ((some 22), .op (.old (.convert 3 176 (.tmp 21)) 176)), ((some 23), .op (.old (.call { callee := .builtin .complex, args := #[(.tmp 20), (.tmp 22)], argTypes := #[176, 176] }) 50)), ((some 4), .op (.mov (.tmp 23)))]⟩]) <|
  .ret,
  [.tmp 4], 24⟩
theorem D_gerundref06_Of_ok : compDF Tryz.prog 135 [] = some D_gerundref06_Of := by kernel_rfl

def E_gerundref07_one_0 : DC :=
  .seq (.seq (.region [] [⟨none, [((some 27), .op (.mov (.tmp 9))), ((some 28), .op (.mov (.tmp 0))), ((some 29), .op (.len (.tmp 28))), ((some 30), .op (.arith .lss (.tmp 27) (.tmp 29))), ((some 31), .op (.mov (.tmp 30)))]⟩, ⟨(some (31, true)), [((some 32), .op (.mov (.tmp 0))), ((some 33), .op (.mov (.tmp 9))), ((some 34), .op (.idx 1 (.tmp 32) (.tmp 33))), ((some 35), .op (.load none (.tmp 34))), ((some 36), .call (.val (.fn 113 [] [])) [(.tmp 35)])]⟩, ⟨none, [((some 37), .op (.pick (.tmp 31) (.tmp 36) (.val (.val (.bool false)))))]⟩]) <|
  .cond (.tmp 37) (.skip) (.exit 1)) <|
  .block 2 (.region [] [⟨none, [((some 38), .op (.mov (.tmp 9))), ((some 39), .op (.arith .add (.tmp 38) (.val (.val (.int .i64 1))))), ((some 9), .op (.mov (.tmp 39)))]⟩])
def E_gerundref07_one_1 : DC :=
  .seq (.seq (.region [] [⟨none, [((some 58), .op (.mov (.tmp 10))), ((some 59), .op (.arith .leq (.tmp 58) (.val (.val (.int .i64 4)))))]⟩]) <|
  .cond (.tmp 59) (.skip) (.exit 3)) <|
  .seq (.block 4 (.seq (.region [] [⟨none, [((some 62), .op (.mov (.tmp 1))), ((some 63), .op (.mov (.tmp 10))), ((some 64), .op (.arith .add (.tmp 62) (.tmp 63))), ((some 65), .op (.mov (.tmp 0))), ((some 66), .op (.len (.tmp 65))), ((some 67), .op (.arith .leq (.tmp 64) (.tmp 66))), ((some 68), .op (.mov (.tmp 67)))]⟩, ⟨(some (68, true)), [((some 69), .op (.mov (.tmp 0))), ((some 70), .op (.mov (.tmp 1))), ((some 71), .op (.mov (.tmp 1))), ((some 72), .op (.mov (.tmp 10))), ((some 73), .op (.arith .add (.tmp 71) (.tmp 72))), ((some 74), .op (.slice 1 (.tmp 69) (some (.tmp 70)) (some (.tmp 73)))), ((some 75), .op (.old (.convert 53 9 (.tmp 74)) 9)), ((some 76), .call (.val (.fn 111 [] [])) [(.tmp 75)])]⟩, ⟨none, [((some 77), .op (.pick (.tmp 68) (.tmp 76) (.val (.val (.bool false)))))]⟩]) <|
  .cond (.tmp 77) (.seq (.region [(6, 8)] [⟨none, [((some 78), .op (.mov (.tmp 0))), ((some 79), .op (.mov (.tmp 1))), ((some 80), .op (.mov (.tmp 1))), ((some 81), .op (.mov (.tmp 10))), ((some 82), .op (.arith .add (.tmp 80) (.tmp 81))), ((some 83), .op (.slice 1 (.tmp 78) (some (.tmp 79)) (some (.tmp 82)))), ((some 84), .op (.old (.convert 53 9 (.tmp 83)) 9)), ((some 85), .op (.addr 0 (.tmp 7))), (none, .op (.store 1 (.tmp 85) (.val (.val (.int .i64 2))))), ((some 86), .op (.addr 1 (.tmp 7))), (none, .op (.store 1 (.tmp 86) (.tmp 84)))]⟩]) <|
  .seq (.region [] [⟨none, [((some 87), .op (.load (some 3) (.tmp 7))), ((some 88), .op (.mov (.tmp 1))), ((some 89), .op (.mov (.tmp 10))), ((some 90), .op (.arith .add (.tmp 88) (.tmp 89))), (none, .op (.store 3 (.tmp 4) (.tmp 87))), ((some 5), .op (.mov (.tmp 90))), ((some 6), .op (.mov (.val (.val (.int .i64 0)))))]⟩]) <|
  .ret) (.skip))) <|
  .region [] [⟨none, [((some 60), .op (.mov (.tmp 10))), ((some 61), .op (.arith .add (.tmp 60) (.val (.val (.int .i64 1))))), ((some 10), .op (.mov (.tmp 61)))]⟩]
def E_gerundref07_one_2 : DC :=
  .seq (.seq (.region [] [⟨none, [((some 108), .op (.mov (.tmp 9))), ((some 109), .op (.mov (.tmp 0))), ((some 110), .op (.len (.tmp 109))), ((some 111), .op (.arith .lss (.tmp 108) (.tmp 110))), ((some 112), .op (.mov (.tmp 111)))]⟩, ⟨(some (112, true)), [((some 113), .op (.mov (.tmp 0))), ((some 114), .op (.mov (.tmp 9))), ((some 115), .op (.idx 1 (.tmp 113) (.tmp 114))), ((some 116), .op (.load none (.tmp 115))), ((some 117), .op (.arith .geq (.tmp 116) (.val (.val (.int .u8 97)))))]⟩, ⟨none, [((some 118), .op (.pick (.tmp 112) (.tmp 117) (.val (.val (.bool false))))), ((some 119), .op (.mov (.tmp 118)))]⟩, ⟨(some (119, true)), [((some 120), .op (.mov (.tmp 0))), ((some 121), .op (.mov (.tmp 9))), ((some 122), .op (.idx 1 (.tmp 120) (.tmp 121))), ((some 123), .op (.load none (.tmp 122))), ((some 124), .op (.arith .leq (.tmp 123) (.val (.val (.int .u8 122)))))]⟩, ⟨none, [((some 125), .op (.pick (.tmp 119) (.tmp 124) (.val (.val (.bool false)))))]⟩]) <|
  .cond (.tmp 125) (.skip) (.exit 5)) <|
  .block 6 (.region [] [⟨none, [((some 126), .op (.mov (.tmp 9))), ((some 127), .op (.arith .add (.tmp 126) (.val (.val (.int .i64 1))))), ((some 9), .op (.mov (.tmp 127)))]⟩])
def D_gerundref07_one : DF := ⟨.seq (.region [] [⟨none, [((some 4), .op (.alloc [(.val (.int .i64 0)), (.val (.string ⟨#[]⟩)), (.val (.complex .f64 0 0))])), ((some 5), .op (.mov (.val (.val (.int .i64 0))))), ((some 6), .op (.mov (.val (.val (.int .i64 0)))))]⟩]) <|
  .seq (.region [] [⟨none, [((some 11), .op (.mov (.tmp 0))), ((some 12), .op (.mov (.tmp 1))), ((some 13), .call (.val (.fn 116 [] [])) [(.tmp 11), (.tmp 12)]), ((some 14), .op (.build [(.val (.int .i64 0)), (.val (.string ⟨#[]⟩)), (.val (.complex .f64 0 0))] [(2, 1, (.tmp 13))])), ((some 7), .op (.alloc [(.val (.int .i64 0)), (.val (.string ⟨#[]⟩)), (.val (.complex .f64 0 0))])), (none, .op (.store 3 (.tmp 7) (.tmp 14)))]⟩]) <|
  .seq (.region [] [⟨none, [((some 15), .op (.mov (.tmp 0))), ((some 16), .op (.mov (.tmp 1))), ((some 17), .op (.idx 1 (.tmp 15) (.tmp 16))), ((some 18), .op (.load none (.tmp 17))), ((some 8), .op (.mov (.tmp 18)))]⟩]) <|
  .seq (.region [] [⟨none, [((some 19), .op (.mov (.tmp 1))), ((some 20), .op (.arith .add (.tmp 19) (.val (.val (.int .i64 1))))), ((some 9), .op (.mov (.tmp 20)))]⟩]) <|
  .seq (.block 0 (.seq (.region [] [⟨none, [((some 25), .op (.mov (.tmp 8))), ((some 26), .call (.val (.fn 112 [] [])) [(.tmp 25)]), ((some 24), .op (.mov (.tmp 26)))]⟩]) <|
  .cond (.tmp 24) (.seq (.block 1 (.loop E_gerundref07_one_0)) <|
  .seq (.seq (.region [] [⟨none, [((some 40), .op (.mov (.tmp 9))), ((some 41), .op (.mov (.tmp 1))), ((some 42), .op (.arith .sub (.tmp 40) (.tmp 41))), ((some 43), .op (.arith .gtr (.tmp 42) (.val (.val (.int .i64 20)))))]⟩]) <|
  .cond (.tmp 43) (.seq (.region [] [⟨none, [((some 44), .op (.load (some 3) (.tmp 7))), ((some 45), .op (.mov (.tmp 9))), (none, .op (.store 3 (.tmp 4) (.tmp 44))), ((some 5), .op (.mov (.tmp 45))), ((some 6), .op (.mov (.val (.val (.int .i64 5)))))]⟩]) <|
  .ret) (.skip)) <|
  .seq (.region [(4, 6)] [⟨none, [((some 46), .op (.mov (.tmp 0))), ((some 47), .op (.mov (.tmp 1))), ((some 48), .op (.mov (.tmp 9))), ((some 49), .op (.slice 1 (.tmp 46) (some (.tmp 47)) (some (.tmp 48)))), ((some 50), .op (.old (.convert 53 9 (.tmp 49)) 9)), ((some 51), .op (.addr 0 (.tmp 7))), (none, .op (.store 1 (.tmp 51) (.val (.val (.int .i64 1))))), ((some 52), .op (.addr 1 (.tmp 7))), (none, .op (.store 1 (.tmp 52) (.tmp 50)))]⟩]) <|
  .seq (.region [] [⟨none, [((some 53), .op (.load (some 3) (.tmp 7))), ((some 54), .op (.mov (.tmp 9))), (none, .op (.store 3 (.tmp 4) (.tmp 53))), ((some 5), .op (.mov (.tmp 54))), ((some 6), .op (.mov (.val (.val (.int .i64 0)))))]⟩]) <|
  .ret) (.seq (.region [] [⟨none, [((some 56), .op (.mov (.tmp 8))), ((some 57), .op (.arith .eql (.tmp 56) (.val (.val (.int .u8 39))))), ((some 55), .op (.mov (.tmp 57)))]⟩]) <|
  .cond (.tmp 55) (.seq (.seq (.region [] [⟨none, [((some 10), .op (.mov (.val (.val (.int .i64 3)))))]⟩]) <|
  .block 3 (.loop E_gerundref07_one_1)) <|
  .seq (.region [(0, 5)] [⟨none, [((some 91), .op (.load (some 3) (.tmp 7))), ((some 92), .op (.mov (.tmp 9))), ((some 93), .op (.mov (.tmp 0))), ((some 94), .op (.mov (.tmp 1))), ((some 95), .op (.slice 1 (.tmp 93) (some (.tmp 94)) none)), ((some 96), .call (.val (.fn 136 [] [])) [(.tmp 95)]), (none, .op (.store 3 (.tmp 4) (.tmp 91))), ((some 5), .op (.mov (.tmp 92))), ((some 6), .op (.mov (.tmp 96)))]⟩]) <|
  .ret) (.seq (.region [] [⟨none, [((some 98), .op (.mov (.tmp 0))), ((some 99), .op (.mov (.tmp 1))), ((some 100), .call (.val (.fn 131 [] [])) [(.tmp 98), (.tmp 99), (.val (.val (.string ⟨#[37, 37]⟩)))]), ((some 97), .op (.mov (.tmp 100)))]⟩]) <|
  .cond (.tmp 97) (.seq (.region [] [⟨none, [((some 101), .op (.addr 0 (.tmp 7))), (none, .op (.store 1 (.tmp 101) (.val (.val (.int .i64 9)))))]⟩]) <|
  .seq (.region [] [⟨none, [((some 102), .op (.load (some 3) (.tmp 7))), ((some 103), .op (.mov (.tmp 1))), ((some 104), .op (.arith .add (.tmp 103) (.val (.val (.int .i64 2))))), (none, .op (.store 3 (.tmp 4) (.tmp 102))), ((some 5), .op (.mov (.tmp 104))), ((some 6), .op (.mov (.val (.val (.int .i64 0)))))]⟩]) <|
  .ret) (.seq (.region [] [⟨none, [((some 106), .op (.mov (.tmp 8))), ((some 107), .op (.arith .eql (.tmp 106) (.val (.val (.int .u8 37))))), ((some 105), .op (.mov (.tmp 107)))]⟩]) <|
  .cond (.tmp 105) (.seq (.block 5 (.loop E_gerundref07_one_2)) <|
  .region [] [⟨none, [((some 128), .op (.mov (.tmp 0))), ((some 129), .op (.mov (.tmp 1))), ((some 130), .op (.arith .add (.tmp 129) (.val (.val (.int .i64 1))))), ((some 131), .op (.mov (.tmp 9))), ((some 132), .op (.slice 1 (.tmp 128) (some (.tmp 130)) (some (.tmp 131)))), ((some 133), .op (.old (.convert 53 9 (.tmp 132)) 9)), ((some 134), .call (.val (.fn 137 [] [])) [(.tmp 133)]), ((some 135), .op (.addr 0 (.tmp 7))), (none, .op (.store 1 (.tmp 135) (.tmp 134)))]⟩]) (.region [] [⟨none, [((some 21), .op (.mov (.tmp 8))), ((some 22), .call (.val (.fn 138 [] [])) [(.tmp 21)]), ((some 23), .op (.addr 0 (.tmp 7))), (none, .op (.store 1 (.tmp 23) (.tmp 22)))]⟩])))))) <|
  .seq (.seq (.region [] [⟨none, [((some 136), .op (.addr 0 (.tmp 7))), ((some 137), .op (.load none (.tmp 136))), ((some 138), .op (.arith .eql (.tmp 137) (.val (.val (.int .i64 0)))))]⟩]) <|
  .cond (.tmp 138) (.seq (.region [] [⟨none, [((some 139), .op (.load (some 3) (.tmp 7))), ((some 140), .op (.mov (.tmp 9))), (none, .op (.store 3 (.tmp 4) (.tmp 139))), ((some 5), .op (.mov (.tmp 140))), ((some 6), .op (.mov (.val (.val (.int .i64 3)))))]⟩]) <|
  .ret) (.skip)) <|
  .seq (.region [] [⟨none, [((some 141), .op (.load (some 3) (.tmp 7))), ((some 142), .op (.mov (.tmp 9))), (none, .op (.store 3 (.tmp 4) (.tmp 141))), ((some 5), .op (.mov (.tmp 142))), ((some 6), .op (.mov (.val (.val (.int .i64 0)))))]⟩]) <|
  .ret,
  [.cell 4 (some 3), .tmp 5, .tmp 6], 143⟩
theorem D_gerundref07_one_ok : compDF Tryz.prog 117 [] = some D_gerundref07_one := by kernel_rfl

def D_gerundref07_later : DF := ⟨.seq (.region [] [⟨none, [((some 2), .op (.mov (.val (.val (.bool false)))))]⟩]) <|
  .seq (.region [] [⟨none, [((some 3), .op (.mov (.tmp 0))), ((some 4), .call (.val (.fn 112 [] [])) [(.tmp 3)]), ((some 5), .op (.mov (.tmp 4)))]⟩, ⟨(some (5, false)), [((some 6), .op (.mov (.tmp 0))), ((some 7), .op (.arith .geq (.tmp 6) (.val (.val (.int .u8 48))))), ((some 8), .op (.mov (.tmp 7)))]⟩, ⟨(some (8, true)), [((some 9), .op (.mov (.tmp 0))), ((some 10), .op (.arith .leq (.tmp 9) (.val (.val (.int .u8 57)))))]⟩, ⟨(some (5, false)), [((some 11), .op (.pick (.tmp 8) (.tmp 10) (.val (.val (.bool false)))))]⟩, ⟨none, [((some 12), .op (.pick (.tmp 5) (.val (.val (.bool true))) (.tmp 11))), ((some 13), .op (.mov (.tmp 12)))]⟩, ⟨(some (13, false)), [((some 14), .op (.mov (.tmp 0))), ((some 15), .op (.arith .eql (.tmp 14) (.val (.val (.int .u8 46)))))]⟩, ⟨none, [((some 16), .op (.pick (.tmp 13) (.val (.val (.bool true))) (.tmp 15))), ((some 2), .op (.mov (.tmp 16)))]⟩]) <|
  .ret,
  [.tmp 2], 17⟩
theorem D_gerundref07_later_ok : compDF Tryz.prog 113 [] = some D_gerundref07_later := by kernel_rfl

def D_gerundref07_first : DF := ⟨.seq (.region [] [⟨none, [((some 2), .op (.mov (.val (.val (.bool false)))))]⟩]) <|
  .seq (.region [] [⟨none, [((some 3), .op (.mov (.tmp 0))), ((some 4), .op (.arith .geq (.tmp 3) (.val (.val (.int .u8 97))))), ((some 5), .op (.mov (.tmp 4)))]⟩, ⟨(some (5, true)), [((some 6), .op (.mov (.tmp 0))), ((some 7), .op (.arith .leq (.tmp 6) (.val (.val (.int .u8 122)))))]⟩, ⟨none, [((some 8), .op (.pick (.tmp 5) (.tmp 7) (.val (.val (.bool false))))), ((some 9), .op (.mov (.tmp 8)))]⟩, ⟨(some (9, false)), [((some 10), .op (.mov (.tmp 0))), ((some 11), .op (.arith .geq (.tmp 10) (.val (.val (.int .u8 65))))), ((some 12), .op (.mov (.tmp 11)))]⟩, ⟨(some (12, true)), [((some 13), .op (.mov (.tmp 0))), ((some 14), .op (.arith .leq (.tmp 13) (.val (.val (.int .u8 90)))))]⟩, ⟨(some (9, false)), [((some 15), .op (.pick (.tmp 12) (.tmp 14) (.val (.val (.bool false)))))]⟩, ⟨none, [((some 16), .op (.pick (.tmp 9) (.val (.val (.bool true))) (.tmp 15))), ((some 17), .op (.mov (.tmp 16)))]⟩, ⟨(some (17, false)), [((some 18), .op (.mov (.tmp 0))), ((some 19), .op (.arith .eql (.tmp 18) (.val (.val (.int .u8 95)))))]⟩, ⟨none, [((some 20), .op (.pick (.tmp 17) (.val (.val (.bool true))) (.tmp 19))), ((some 2), .op (.mov (.tmp 20)))]⟩]) <|
  .ret,
  [.tmp 2], 21⟩
theorem D_gerundref07_first_ok : compDF Tryz.prog 112 [] = some D_gerundref07_first := by kernel_rfl

def D_gerundref07_Literal : DF := ⟨.seq (.region [] [⟨none, [((some 2), .op (.mov (.val (.val (.bool false)))))]⟩]) <|
  .seq (.seq (.region [] [⟨none, [((some 3), .op (.mov (.tmp 0))), ((some 4), .op (.lenS (.tmp 3))), ((some 5), .op (.arith .eql (.tmp 4) (.val (.val (.int .i64 3)))))]⟩]) <|
  .cond (.tmp 5) (.seq (.region [] [⟨none, [((some 6), .op (.mov (.tmp 0))), ((some 7), .op (.sidx (.tmp 6) (.val (.val (.int .i64 0))))), ((some 8), .op (.arith .eql (.tmp 7) (.val (.val (.int .u8 39))))), ((some 9), .op (.mov (.tmp 8)))]⟩, ⟨(some (9, true)), [((some 10), .op (.mov (.tmp 0))), ((some 11), .op (.sidx (.tmp 10) (.val (.val (.int .i64 2))))), ((some 12), .op (.arith .eql (.tmp 11) (.val (.val (.int .u8 39)))))]⟩, ⟨none, [((some 13), .op (.pick (.tmp 9) (.tmp 12) (.val (.val (.bool false))))), ((some 14), .op (.mov (.tmp 13)))]⟩, ⟨(some (14, true)), [((some 15), .op (.mov (.tmp 0))), ((some 16), .op (.sidx (.tmp 15) (.val (.val (.int .i64 1))))), ((some 17), .op (.arith .geq (.tmp 16) (.val (.val (.int .u8 32)))))]⟩, ⟨none, [((some 18), .op (.pick (.tmp 14) (.tmp 17) (.val (.val (.bool false))))), ((some 19), .op (.mov (.tmp 18)))]⟩, ⟨(some (19, true)), [((some 20), .op (.mov (.tmp 0))), ((some 21), .op (.sidx (.tmp 20) (.val (.val (.int .i64 1))))), ((some 22), .op (.arith .leq (.tmp 21) (.val (.val (.int .u8 126)))))]⟩, ⟨none, [((some 23), .op (.pick (.tmp 19) (.tmp 22) (.val (.val (.bool false))))), ((some 24), .op (.mov (.tmp 23)))]⟩, ⟨(some (24, true)), [((some 25), .op (.mov (.tmp 0))), ((some 26), .op (.sidx (.tmp 25) (.val (.val (.int .i64 1))))), ((some 27), .op (.arith .neq (.tmp 26) (.val (.val (.int .u8 39)))))]⟩, ⟨none, [((some 28), .op (.pick (.tmp 24) (.tmp 27) (.val (.val (.bool false))))), ((some 29), .op (.mov (.tmp 28)))]⟩, ⟨(some (29, true)), [((some 30), .op (.mov (.tmp 0))), ((some 31), .op (.sidx (.tmp 30) (.val (.val (.int .i64 1))))), ((some 32), .op (.arith .neq (.tmp 31) (.val (.val (.int .u8 92)))))]⟩, ⟨none, [((some 33), .op (.pick (.tmp 29) (.tmp 32) (.val (.val (.bool false))))), ((some 2), .op (.mov (.tmp 33)))]⟩]) <|
  .ret) (.skip)) <|
  .seq (.region [] [⟨none, [((some 34), .op (.mov (.tmp 0))), ((some 35), .op (.lenS (.tmp 34))), ((some 36), .op (.arith .eql (.tmp 35) (.val (.val (.int .i64 4))))), ((some 37), .op (.mov (.tmp 36)))]⟩, ⟨(some (37, true)), [((some 38), .op (.mov (.tmp 0))), ((some 39), .op (.sidx (.tmp 38) (.val (.val (.int .i64 0))))), ((some 40), .op (.arith .eql (.tmp 39) (.val (.val (.int .u8 39)))))]⟩, ⟨none, [((some 41), .op (.pick (.tmp 37) (.tmp 40) (.val (.val (.bool false))))), ((some 42), .op (.mov (.tmp 41)))]⟩, ⟨(some (42, true)), [((some 43), .op (.mov (.tmp 0))), ((some 44), .op (.sidx (.tmp 43) (.val (.val (.int .i64 3))))), ((some 45), .op (.arith .eql (.tmp 44) (.val (.val (.int .u8 39)))))]⟩, ⟨none, [((some 46), .op (.pick (.tmp 42) (.tmp 45) (.val (.val (.bool false))))), ((some 47), .op (.mov (.tmp 46)))]⟩, ⟨(some (47, true)), [((some 48), .op (.mov (.tmp 0))), ((some 49), .op (.sidx (.tmp 48) (.val (.val (.int .i64 1))))), ((some 50), .op (.arith .eql (.tmp 49) (.val (.val (.int .u8 92)))))]⟩, ⟨none, [((some 51), .op (.pick (.tmp 47) (.tmp 50) (.val (.val (.bool false))))), ((some 52), .op (.mov (.tmp 51)))]⟩, ⟨(some (52, true)), [((some 53), .op (.mov (.tmp 0))), ((some 54), .op (.sidx (.tmp 53) (.val (.val (.int .i64 2))))), ((some 55), .op (.arith .eql (.tmp 54) (.val (.val (.int .u8 110))))), ((some 56), .op (.mov (.tmp 55)))]⟩, ⟨(some (56, false)), [((some 57), .op (.mov (.tmp 0))), ((some 58), .op (.sidx (.tmp 57) (.val (.val (.int .i64 2))))), ((some 59), .op (.arith .eql (.tmp 58) (.val (.val (.int .u8 116)))))]⟩, ⟨(some (52, true)), [((some 60), .op (.pick (.tmp 56) (.val (.val (.bool true))) (.tmp 59))), ((some 61), .op (.mov (.tmp 60)))]⟩, ⟨(some (61, false)), [((some 62), .op (.mov (.tmp 0))), ((some 63), .op (.sidx (.tmp 62) (.val (.val (.int .i64 2))))), ((some 64), .op (.arith .eql (.tmp 63) (.val (.val (.int .u8 92)))))]⟩, ⟨(some (52, true)), [((some 65), .op (.pick (.tmp 61) (.val (.val (.bool true))) (.tmp 64))), ((some 66), .op (.mov (.tmp 65)))]⟩, ⟨(some (66, false)), [((some 67), .op (.mov (.tmp 0))), ((some 68), .op (.sidx (.tmp 67) (.val (.val (.int .i64 2))))), ((some 69), .op (.arith .eql (.tmp 68) (.val (.val (.int .u8 39)))))]⟩, ⟨(some (52, true)), [((some 70), .op (.pick (.tmp 66) (.val (.val (.bool true))) (.tmp 69)))]⟩, ⟨none, [((some 71), .op (.pick (.tmp 52) (.tmp 70) (.val (.val (.bool false))))), ((some 2), .op (.mov (.tmp 71)))]⟩]) <|
  .ret,
  [.tmp 2], 72⟩
theorem D_gerundref07_Literal_ok : compDF Tryz.prog 111 [] = some D_gerundref07_Literal := by kernel_rfl

def E_gerundref07_unended_0 : DC :=
  .seq (.seq (.region [] [⟨none, [((some 6), .op (.mov (.tmp 4))), ((some 7), .op (.mov (.tmp 3))), ((some 8), .op (.len (.tmp 7))), ((some 9), .op (.arith .lss (.tmp 6) (.tmp 8)))]⟩]) <|
  .cond (.tmp 9) (.skip) (.exit 0)) <|
  .seq (.block 1 (.seq (.region [(5, 9)] [⟨none, [((some 12), .op (.mov (.tmp 0))), ((some 13), .op (.len (.tmp 12))), ((some 14), .op (.arith .lss (.tmp 13) (.val (.val (.int .i64 4))))), ((some 15), .op (.mov (.tmp 14)))]⟩, ⟨(some (15, true)), [((some 16), .op (.mov (.tmp 0))), ((some 17), .op (.old (.convert 53 9 (.tmp 16)) 9)), ((some 18), .op (.mov (.tmp 3))), ((some 19), .op (.mov (.tmp 4))), ((some 20), .op (.idx 1 (.tmp 18) (.tmp 19))), ((some 21), .op (.load none (.tmp 20))), ((some 22), .op (.sop .add (.tmp 17) (.tmp 21))), ((some 23), .call (.val (.fn 111 [] [])) [(.tmp 22)])]⟩, ⟨none, [((some 24), .op (.pick (.tmp 15) (.tmp 23) (.val (.val (.bool false)))))]⟩]) <|
  .cond (.tmp 24) (.seq (.region [] [⟨none, [((some 2), .op (.mov (.val (.val (.int .i64 4)))))]⟩]) <|
  .ret) (.skip))) <|
  .region [] [⟨none, [((some 10), .op (.mov (.tmp 4))), ((some 11), .op (.arith .add (.tmp 10) (.val (.val (.int .i64 1))))), ((some 4), .op (.mov (.tmp 11)))]⟩]
def D_gerundref07_unended : DF := ⟨.seq (.region [] [⟨none, [((some 2), .op (.mov (.val (.val (.int .i64 0)))))]⟩]) <|
  .seq (.region [] [⟨none, [((some 5), .op (.bslice 5 1 [(.val (.string ⟨#[]⟩))] [(0, (.val (.val (.string ⟨#[120, 39]⟩)))), (1, (.val (.val (.string ⟨#[39]⟩)))), (2, (.val (.val (.string ⟨#[92, 110, 39]⟩)))), (3, (.val (.val (.string ⟨#[110, 39]⟩)))), (4, (.val (.val (.string ⟨#[92, 39, 39]⟩))))])), ((some 3), .op (.mov (.tmp 5)))]⟩]) <|
  .seq (.seq (.region [] [⟨none, [((some 4), .op (.mov (.val (.val (.int .i64 0)))))]⟩]) <|
  .block 0 (.loop E_gerundref07_unended_0)) <|
  .seq (.region [] [⟨none, [((some 2), .op (.mov (.val (.val (.int .i64 3)))))]⟩]) <|
  .ret,
  [.tmp 2], 25⟩
theorem D_gerundref07_unended_ok : compDF Tryz.prog 136 [] = some D_gerundref07_unended := by kernel_rfl

def D_gerundref07_percent : DF := ⟨.seq (.region [] [⟨none, [((some 2), .op (.mov (.val (.val (.int .i64 0)))))]⟩]) <|
  .seq (.seq (.region [] [⟨none, [((some 3), .op (.mov (.tmp 0)))]⟩]) <|
  .block 0 (.seq (.region [] [⟨none, [((some 5), .op (.sop .eql (.tmp 3) (.val (.val (.string ⟨#[116, 111, 107, 101, 110]⟩))))), ((some 4), .op (.mov (.tmp 5)))]⟩]) <|
  .cond (.tmp 4) (.seq (.region [] [⟨none, [((some 2), .op (.mov (.val (.val (.int .i64 3)))))]⟩]) <|
  .ret) (.seq (.region [] [⟨none, [((some 7), .op (.sop .eql (.tmp 3) (.val (.val (.string ⟨#[108, 101, 102, 116]⟩))))), ((some 6), .op (.mov (.tmp 7)))]⟩]) <|
  .cond (.tmp 6) (.seq (.region [] [⟨none, [((some 2), .op (.mov (.val (.val (.int .i64 4)))))]⟩]) <|
  .ret) (.seq (.region [] [⟨none, [((some 9), .op (.sop .eql (.tmp 3) (.val (.val (.string ⟨#[114, 105, 103, 104, 116]⟩))))), ((some 8), .op (.mov (.tmp 9)))]⟩]) <|
  .cond (.tmp 8) (.seq (.region [] [⟨none, [((some 2), .op (.mov (.val (.val (.int .i64 5)))))]⟩]) <|
  .ret) (.seq (.region [] [⟨none, [((some 11), .op (.sop .eql (.tmp 3) (.val (.val (.string ⟨#[110, 111, 110, 97, 115, 115, 111, 99]⟩))))), ((some 10), .op (.mov (.tmp 11)))]⟩]) <|
  .cond (.tmp 10) (.seq (.region [] [⟨none, [((some 2), .op (.mov (.val (.val (.int .i64 6)))))]⟩]) <|
  .ret) (.seq (.region [] [⟨none, [((some 13), .op (.sop .eql (.tmp 3) (.val (.val (.string ⟨#[115, 116, 97, 114, 116]⟩))))), ((some 12), .op (.mov (.tmp 13)))]⟩]) <|
  .cond (.tmp 12) (.seq (.region [] [⟨none, [((some 2), .op (.mov (.val (.val (.int .i64 7)))))]⟩]) <|
  .ret) (.seq (.region [] [⟨none, [((some 15), .op (.sop .eql (.tmp 3) (.val (.val (.string ⟨#[112, 114, 101, 99]⟩))))), ((some 14), .op (.mov (.tmp 15)))]⟩]) <|
  .cond (.tmp 14) (.seq (.region [] [⟨none, [((some 2), .op (.mov (.val (.val (.int .i64 8)))))]⟩]) <|
  .ret) (.skip)))))))) <|
  .seq (.region [] [⟨none, [((some 2), .op (.mov (.val (.val (.int .i64 0)))))]⟩]) <|
  .ret,
  [.tmp 2], 16⟩
theorem D_gerundref07_percent_ok : compDF Tryz.prog 137 [] = some D_gerundref07_percent := by kernel_rfl

def D_gerundref07_mark : DF := ⟨.seq (.region [] [⟨none, [((some 2), .op (.mov (.val (.val (.int .i64 0)))))]⟩]) <|
  .seq (.seq (.region [] [⟨none, [((some 3), .op (.mov (.tmp 0)))]⟩]) <|
  .block 0 (.seq (.region [] [⟨none, [((some 5), .op (.arith .eql (.tmp 3) (.val (.val (.int .u8 58))))), ((some 4), .op (.mov (.tmp 5)))]⟩]) <|
  .cond (.tmp 4) (.seq (.region [] [⟨none, [((some 2), .op (.mov (.val (.val (.int .i64 10)))))]⟩]) <|
  .ret) (.seq (.region [] [⟨none, [((some 7), .op (.arith .eql (.tmp 3) (.val (.val (.int .u8 124))))), ((some 6), .op (.mov (.tmp 7)))]⟩]) <|
  .cond (.tmp 6) (.seq (.region [] [⟨none, [((some 2), .op (.mov (.val (.val (.int .i64 11)))))]⟩]) <|
  .ret) (.seq (.region [] [⟨none, [((some 9), .op (.arith .eql (.tmp 3) (.val (.val (.int .u8 59))))), ((some 8), .op (.mov (.tmp 9)))]⟩]) <|
  .cond (.tmp 8) (.seq (.region [] [⟨none, [((some 2), .op (.mov (.val (.val (.int .i64 12)))))]⟩]) <|
  .ret) (.skip))))) <|
  .seq (.region [] [⟨none, [((some 2), .op (.mov (.val (.val (.int .i64 0)))))]⟩]) <|
  .ret,
  [.tmp 2], 10⟩
theorem D_gerundref07_mark_ok : compDF Tryz.prog 138 [] = some D_gerundref07_mark := by kernel_rfl

def E_gerundref08_Of_0 : DC :=
  .seq (.seq (.region [] [⟨none, [((some 21), .op (.mov (.tmp 7))), ((some 22), .op (.nilc (.tmp 21))), ((some 23), .op (.addr 3 (.tmp 22))), ((some 24), .op (.load none (.tmp 23))), ((some 25), .op (.arith .eql (.tmp 24) (.val (.val (.int .i64 0))))), ((some 26), .op (.mov (.tmp 25)))]⟩, ⟨(some (26, true)), [((some 27), .op (.mov (.tmp 7))), ((some 28), .op (.nilc (.tmp 27))), ((some 29), .op (.addr 0 (.tmp 28))), ((some 30), .op (.load none (.tmp 29))), ((some 31), .op (.len (.tmp 30))), ((some 32), .op (.arith .gtr (.tmp 31) (.val (.val (.int .i64 0)))))]⟩, ⟨none, [((some 33), .op (.pick (.tmp 26) (.tmp 32) (.val (.val (.bool false))))), ((some 34), .op (.mov (.tmp 33)))]⟩, ⟨(some (34, true)), [((some 35), .op (.mov (.tmp 7))), ((some 36), .call (.val (.fn 121 [] [])) [(.tmp 35)]), ((some 37), .op (.arith .neq (.tmp 36) (.val (.val (.int .i64 9)))))]⟩, ⟨none, [((some 38), .op (.pick (.tmp 34) (.tmp 37) (.val (.val (.bool false)))))]⟩]) <|
  .cond (.tmp 38) (.skip) (.exit 0)) <|
  .block 1 (.region [(1, 3)] [⟨none, [((some 39), .op (.addr 1 (.tmp 8))), ((some 40), .op (.load none (.tmp 39))), ((some 41), .op (.mov (.tmp 7))), ((some 42), .call (.val (.fn 120 [] [])) [(.tmp 41)]), ((some 43), .op (.app 5 88 (.tmp 40) (.tmp 42))), ((some 44), .op (.addr 1 (.tmp 8))), (none, .op (.store 1 (.tmp 44) (.tmp 43)))]⟩])
def D_gerundref08_Of : DF := ⟨.seq (.region [] [⟨none, [((some 4), .op (.alloc [(.emp 1), (.emp 1)])), ((some 5), .op (.mov (.val (.val (.complex .f64 0 0))))), ((some 6), .op (.mov (.val (.val (.int .i64 0)))))]⟩]) <|
  .seq (.region [] [⟨none, [((some 9), .op (.mov (.tmp 0))), ((some 10), .op (.mov (.tmp 1))), ((some 11), .op (.build [(.emp 1), (.val (.complex .f64 0 0)), (.val (.complex .f64 0 0)), (.val (.int .i64 0))] [(0, 1, (.tmp 9)), (1, 1, (.tmp 10))])), ((some 12), .op (.box (.tmp 11))), ((some 7), .op (.mov (.tmp 12)))]⟩]) <|
  .seq (.region [] [⟨none, [((some 13), .op (.mov (.tmp 7))), ((some 14), .call (.val (.fn 118 [] [])) [(.tmp 13)]), ((some 15), .op (.build [(.emp 1), (.emp 1)] [(0, 1, (.tmp 14))])), ((some 8), .op (.alloc [(.emp 1), (.emp 1)])), (none, .op (.store 2 (.tmp 8) (.tmp 15)))]⟩]) <|
  .seq (.region [] [⟨none, [((some 16), .op (.mov (.tmp 7))), ((some 17), .call (.val (.fn 119 [] [])) [(.tmp 16), (.val (.val (.int .i64 9))), (.val (.val (.int .i64 9)))])]⟩]) <|
  .seq (.region [] [⟨none, [((some 18), .op (.mov (.tmp 7))), ((some 19), .call (.val (.fn 120 [] [])) [(.tmp 18)]), ((some 20), .op (.addr 1 (.tmp 8))), (none, .op (.store 1 (.tmp 20) (.tmp 19)))]⟩]) <|
  .seq (.block 0 (.loop E_gerundref08_Of_0)) <|
  .seq (.seq (.region [] [⟨none, [((some 45), .op (.mov (.tmp 7))), ((some 46), .op (.nilc (.tmp 45))), ((some 47), .op (.addr 3 (.tmp 46))), ((some 48), .op (.load none (.tmp 47))), ((some 49), .op (.arith .eql (.tmp 48) (.val (.val (.int .i64 0))))), ((some 50), .op (.mov (.tmp 49)))]⟩, ⟨(some (50, true)), [((some 51), .op (.mov (.tmp 7))), ((some 52), .op (.nilc (.tmp 51))), ((some 53), .op (.addr 0 (.tmp 52))), ((some 54), .op (.load none (.tmp 53))), ((some 55), .op (.len (.tmp 54))), ((some 56), .op (.arith .gtr (.tmp 55) (.val (.val (.int .i64 0)))))]⟩, ⟨none, [((some 57), .op (.pick (.tmp 50) (.tmp 56) (.val (.val (.bool false)))))]⟩]) <|
  .cond (.tmp 57) (.region [] [⟨none, [((some 58), .op (.mov (.tmp 7))), ((some 59), .call (.val (.fn 119 [] [])) [(.tmp 58), (.val (.val (.int .i64 9))), (.val (.val (.int .i64 9)))])]⟩]) (.skip)) <|
  .seq (.seq (.region [] [⟨none, [((some 60), .op (.mov (.tmp 7))), ((some 61), .op (.nilc (.tmp 60))), ((some 62), .op (.addr 0 (.tmp 61))), ((some 63), .op (.load none (.tmp 62))), ((some 64), .op (.len (.tmp 63))), ((some 65), .op (.arith .gtr (.tmp 64) (.val (.val (.int .i64 0)))))]⟩]) <|
  .cond (.tmp 65) (.region [] [⟨none, [((some 66), .op (.mov (.tmp 7))), ((some 67), .call (.val (.fn 122 [] [])) [(.tmp 66)])]⟩]) (.skip)) <|
  .seq (.seq (.region [] [⟨none, [((some 68), .op (.mov (.tmp 7))), ((some 69), .op (.nilc (.tmp 68))), ((some 70), .op (.addr 3 (.tmp 69))), ((some 71), .op (.load none (.tmp 70))), ((some 72), .op (.arith .neq (.tmp 71) (.val (.val (.int .i64 0)))))]⟩]) <|
  .cond (.tmp 72) (.seq (.region [(4, 9), (8, 9)] [⟨none, [((some 73), .op (.build [(.emp 1), (.emp 1)] [])), ((some 74), .op (.mov (.tmp 7))), ((some 75), .op (.nilc (.tmp 74))), ((some 76), .op (.addr 2 (.tmp 75))), ((some 77), .op (.load none (.tmp 76))), ((some 78), .op (.mov (.tmp 7))), ((some 79), .op (.nilc (.tmp 78))), ((some 80), .op (.addr 3 (.tmp 79))), ((some 81), .op (.load none (.tmp 80))), (none, .op (.store 2 (.tmp 4) (.tmp 73))), ((some 5), .op (.mov (.tmp 77))), ((some 6), .op (.mov (.tmp 81)))]⟩]) <|
  .ret) (.skip)) <|
  .seq (.region [] [⟨none, [((some 82), .op (.load (some 2) (.tmp 8))), (none, .op (.store 2 (.tmp 4) (.tmp 82))), ((some 5), .op (.mov (.val (.val (.complex .f64 0 0))))), ((some 6), .op (.mov (.val (.val (.int .i64 0)))))]⟩]) <|
  .ret,
  [.cell 4 (some 2), .tmp 5, .tmp 6], 83⟩
theorem D_gerundref08_Of_ok : compDF Tryz.prog 96 [] = some D_gerundref08_Of := by kernel_rfl

def D_gerundref08_reader_kind : DF := ⟨.seq (.region [] [⟨none, [((some 2), .op (.mov (.val (.val (.int .i64 0)))))]⟩]) <|
  .seq (.seq (.region [] [⟨none, [((some 3), .op (.mov (.tmp 0))), ((some 4), .op (.nilc (.tmp 3))), ((some 5), .op (.addr 3 (.tmp 4))), ((some 6), .op (.load none (.tmp 5))), ((some 7), .op (.arith .neq (.tmp 6) (.val (.val (.int .i64 0))))), ((some 8), .op (.mov (.tmp 7)))]⟩, ⟨(some (8, false)), [((some 9), .op (.mov (.tmp 0))), ((some 10), .op (.nilc (.tmp 9))), ((some 11), .op (.addr 0 (.tmp 10))), ((some 12), .op (.load none (.tmp 11))), ((some 13), .op (.len (.tmp 12))), ((some 14), .op (.arith .eql (.tmp 13) (.val (.val (.int .i64 0)))))]⟩, ⟨none, [((some 15), .op (.pick (.tmp 8) (.val (.val (.bool true))) (.tmp 14)))]⟩]) <|
  .cond (.tmp 15) (.seq (.region [] [⟨none, [((some 2), .op (.mov (.val (.val (.int .i64 0)))))]⟩]) <|
  .ret) (.skip)) <|
  .seq (.region [] [⟨none, [((some 16), .op (.mov (.tmp 0))), ((some 17), .op (.nilc (.tmp 16))), ((some 18), .op (.addr 0 (.tmp 17))), ((some 19), .op (.load none (.tmp 18))), ((some 20), .op (.idx 3 (.tmp 19) (.val (.val (.int .i64 0))))), ((some 21), .op (.addr 0 (.tmp 20))), ((some 22), .op (.load none (.tmp 21))), ((some 2), .op (.mov (.tmp 22)))]⟩]) <|
  .ret,
  [.tmp 2], 23⟩
theorem D_gerundref08_reader_kind_ok : compDF Tryz.prog 121 [] = some D_gerundref08_reader_kind := by kernel_rfl

def E_gerundref08_reader_group_0 : DC :=
  .seq (.seq (.region [] [⟨none, [((some 10), .op (.mov (.tmp 0))), ((some 11), .op (.nilc (.tmp 10))), ((some 12), .op (.addr 3 (.tmp 11))), ((some 13), .op (.load none (.tmp 12))), ((some 14), .op (.arith .eql (.tmp 13) (.val (.val (.int .i64 0)))))]⟩]) <|
  .cond (.tmp 14) (.skip) (.exit 0)) <|
  .block 1 (.seq (.region [(0, 2), (2, 4)] [⟨none, [((some 15), .op (.load (some 2) (.tmp 4))), ((some 16), .op (.mov (.tmp 0))), ((some 17), .call (.val (.fn 139 [] [])) [(.tmp 16)]), ((some 18), .op (.build [(.val (.string ⟨#[]⟩)), (.val (.complex .f64 0 0)), (.emp 1), (.val (.string ⟨#[]⟩)), (.val (.complex .f64 0 0))] [(0, 2, (.tmp 15)), (2, 1, (.tmp 17))])), ((some 5), .op (.alloc [(.val (.string ⟨#[]⟩)), (.val (.complex .f64 0 0)), (.emp 1), (.val (.string ⟨#[]⟩)), (.val (.complex .f64 0 0))])), (none, .op (.store 5 (.tmp 5) (.tmp 18)))]⟩]) <|
  .seq (.seq (.region [] [⟨none, [((some 19), .op (.mov (.tmp 0))), ((some 20), .call (.val (.fn 140 [] [])) [(.tmp 19), (.val (.val (.int .i64 8))), (.val (.val (.int .i64 8)))])]⟩]) <|
  .cond (.tmp 20) (.seq (.region [] [⟨none, [((some 21), .op (.mov (.tmp 0))), ((some 22), .call (.val (.fn 119 [] [])) [(.tmp 21), (.val (.val (.int .i64 8))), (.val (.val (.int .i64 8)))])]⟩]) <|
  .region [] [⟨none, [((some 23), .op (.mov (.tmp 0))), ((some 24), .call (.val (.fn 119 [] [])) [(.tmp 23), (.val (.val (.int .i64 1))), (.val (.val (.int .i64 2)))]), ((some 25), .op (.addr 3 (.tmp 5))), (none, .op (.store 2 (.tmp 25) (.tmp 24)))]⟩]) (.skip)) <|
  .seq (.region [] [⟨none, [((some 26), .op (.mov (.tmp 3))), ((some 27), .op (.load (some 5) (.tmp 5))), ((some 28), .op (.bslice 1 5 [(.val (.string ⟨#[]⟩)), (.val (.complex .f64 0 0)), (.emp 1), (.val (.string ⟨#[]⟩)), (.val (.complex .f64 0 0))] [(0, (.tmp 27))])), ((some 29), .op (.app 5 88 (.tmp 26) (.tmp 28))), ((some 3), .op (.mov (.tmp 29)))]⟩]) <|
  .seq (.seq (.region [] [⟨none, [((some 30), .op (.mov (.tmp 0))), ((some 31), .call (.val (.fn 140 [] [])) [(.tmp 30), (.val (.val (.int .i64 11))), (.val (.val (.int .i64 11)))]), ((some 32), .op (.not (.tmp 31)))]⟩]) <|
  .cond (.tmp 32) (.seq (.region [] [⟨none, [((some 33), .op (.mov (.tmp 0))), ((some 34), .call (.val (.fn 119 [] [])) [(.tmp 33), (.val (.val (.int .i64 12))), (.val (.val (.int .i64 12)))])]⟩]) <|
  .seq (.region [] [⟨none, [((some 35), .op (.mov (.tmp 3))), ((some 2), .op (.mov (.tmp 35)))]⟩]) <|
  .ret) (.skip)) <|
  .region [] [⟨none, [((some 36), .op (.mov (.tmp 0))), ((some 37), .call (.val (.fn 119 [] [])) [(.tmp 36), (.val (.val (.int .i64 11))), (.val (.val (.int .i64 11)))])]⟩])
def D_gerundref08_reader_group : DF := ⟨.seq (.region [] [⟨none, [((some 2), .op (.mov (.val (.emp 1))))]⟩]) <|
  .seq (.region [] [⟨none, [((some 3), .op (.mov (.val (.emp 1))))]⟩]) <|
  .seq (.region [] [⟨none, [((some 6), .op (.mov (.tmp 0))), ((some 7), .call (.val (.fn 119 [] [])) [(.tmp 6), (.val (.val (.int .i64 1))), (.val (.val (.int .i64 1)))]), ((some 4), .op (.alloc [(.val (.string ⟨#[]⟩)), (.val (.complex .f64 0 0))])), (none, .op (.store 2 (.tmp 4) (.tmp 7)))]⟩]) <|
  .seq (.region [] [⟨none, [((some 8), .op (.mov (.tmp 0))), ((some 9), .call (.val (.fn 119 [] [])) [(.tmp 8), (.val (.val (.int .i64 10))), (.val (.val (.int .i64 10)))])]⟩]) <|
  .seq (.block 0 (.loop E_gerundref08_reader_group_0)) <|
  .seq (.region [] [⟨none, [((some 38), .op (.mov (.tmp 3))), ((some 2), .op (.mov (.tmp 38)))]⟩]) <|
  .ret,
  [.tmp 2], 39⟩
theorem D_gerundref08_reader_group_ok : compDF Tryz.prog 120 [] = some D_gerundref08_reader_group := by kernel_rfl

def E_gerundref08_reader_refs_0 : DC :=
  .seq (.seq (.region [] [⟨none, [((some 4), .op (.mov (.tmp 0))), ((some 5), .call (.val (.fn 140 [] [])) [(.tmp 4), (.val (.val (.int .i64 1))), (.val (.val (.int .i64 2)))])]⟩]) <|
  .cond (.tmp 5) (.skip) (.exit 0)) <|
  .block 1 (.region [] [⟨none, [((some 6), .op (.mov (.tmp 3))), ((some 7), .op (.mov (.tmp 0))), ((some 8), .call (.val (.fn 119 [] [])) [(.tmp 7), (.val (.val (.int .i64 1))), (.val (.val (.int .i64 2)))]), ((some 9), .op (.bslice 1 2 [(.val (.string ⟨#[]⟩)), (.val (.complex .f64 0 0))] [(0, (.tmp 8))])), ((some 10), .op (.app 2 32 (.tmp 6) (.tmp 9))), ((some 3), .op (.mov (.tmp 10)))]⟩])
def D_gerundref08_reader_refs : DF := ⟨.seq (.region [] [⟨none, [((some 2), .op (.mov (.val (.emp 1))))]⟩]) <|
  .seq (.region [] [⟨none, [((some 3), .op (.mov (.val (.emp 1))))]⟩]) <|
  .seq (.block 0 (.loop E_gerundref08_reader_refs_0)) <|
  .seq (.region [] [⟨none, [((some 11), .op (.mov (.tmp 3))), ((some 2), .op (.mov (.tmp 11)))]⟩]) <|
  .ret,
  [.tmp 2], 12⟩
theorem D_gerundref08_reader_refs_ok : compDF Tryz.prog 139 [] = some D_gerundref08_reader_refs := by kernel_rfl

def D_gerundref08_reader_is : DF := ⟨.seq (.region [] [⟨none, [((some 6), .op (.mov (.val (.val (.bool false)))))]⟩]) <|
  .seq (.region [] [⟨none, [((some 7), .op (.mov (.tmp 0))), ((some 8), .op (.nilc (.tmp 7))), ((some 9), .op (.addr 0 (.tmp 8))), ((some 10), .op (.load none (.tmp 9))), ((some 11), .op (.len (.tmp 10))), ((some 12), .op (.arith .gtr (.tmp 11) (.val (.val (.int .i64 0))))), ((some 13), .op (.mov (.tmp 12)))]⟩, ⟨(some (13, true)), [((some 14), .op (.mov (.tmp 0))), ((some 15), .call (.val (.fn 121 [] [])) [(.tmp 14)]), ((some 16), .op (.mov (.tmp 1))), ((some 17), .op (.arith .eql (.tmp 15) (.tmp 16))), ((some 18), .op (.mov (.tmp 17)))]⟩, ⟨(some (18, false)), [((some 19), .op (.mov (.tmp 0))), ((some 20), .call (.val (.fn 121 [] [])) [(.tmp 19)]), ((some 21), .op (.mov (.tmp 2))), ((some 22), .op (.arith .eql (.tmp 20) (.tmp 21)))]⟩, ⟨(some (13, true)), [((some 23), .op (.pick (.tmp 18) (.val (.val (.bool true))) (.tmp 22)))]⟩, ⟨none, [((some 24), .op (.pick (.tmp 13) (.tmp 23) (.val (.val (.bool false))))), ((some 6), .op (.mov (.tmp 24)))]⟩]) <|
  .ret,
  [.tmp 6], 25⟩
theorem D_gerundref08_reader_is_ok : compDF Tryz.prog 140 [] = some D_gerundref08_reader_is := by kernel_rfl

def D_gerundref08_reader_take : DF := ⟨.seq (.region [] [⟨none, [((some 6), .op (.alloc [(.val (.string ⟨#[]⟩)), (.val (.complex .f64 0 0))]))]⟩]) <|
  .seq (.seq (.region [] [⟨none, [((some 8), .op (.mov (.tmp 0))), ((some 9), .op (.nilc (.tmp 8))), ((some 10), .op (.addr 3 (.tmp 9))), ((some 11), .op (.load none (.tmp 10))), ((some 12), .op (.arith .neq (.tmp 11) (.val (.val (.int .i64 0))))), ((some 13), .op (.mov (.tmp 12)))]⟩, ⟨(some (13, false)), [((some 14), .op (.mov (.tmp 0))), ((some 15), .op (.mov (.tmp 1))), ((some 16), .op (.mov (.tmp 2))), ((some 17), .call (.val (.fn 140 [] [])) [(.tmp 14), (.tmp 15), (.tmp 16)]), ((some 18), .op (.not (.tmp 17)))]⟩, ⟨none, [((some 19), .op (.pick (.tmp 13) (.val (.val (.bool true))) (.tmp 18)))]⟩]) <|
  .cond (.tmp 19) (.seq (.region [] [⟨none, [((some 20), .op (.mov (.tmp 0))), ((some 21), .call (.val (.fn 122 [] [])) [(.tmp 20)])]⟩]) <|
  .seq (.region [] [⟨none, [((some 22), .op (.build [(.val (.string ⟨#[]⟩)), (.val (.complex .f64 0 0))] [])), (none, .op (.store 2 (.tmp 6) (.tmp 22)))]⟩]) <|
  .ret) (.skip)) <|
  .seq (.region [] [⟨none, [((some 23), .op (.mov (.tmp 0))), ((some 24), .op (.nilc (.tmp 23))), ((some 25), .op (.addr 0 (.tmp 24))), ((some 26), .op (.load none (.tmp 25))), ((some 27), .op (.idx 3 (.tmp 26) (.val (.val (.int .i64 0))))), ((some 28), .op (.load (some 3) (.tmp 27))), ((some 7), .op (.alloc [(.val (.int .i64 0)), (.val (.string ⟨#[]⟩)), (.val (.complex .f64 0 0))])), (none, .op (.store 3 (.tmp 7) (.tmp 28)))]⟩]) <|
  .seq (.region [] [⟨none, [((some 29), .op (.mov (.tmp 0))), ((some 30), .op (.mov (.tmp 0))), ((some 31), .op (.nilc (.tmp 30))), ((some 32), .op (.addr 0 (.tmp 31))), ((some 33), .op (.load none (.tmp 32))), ((some 34), .op (.slice 3 (.tmp 33) (some (.val (.val (.int .i64 1)))) none)), ((some 35), .op (.nilc (.tmp 29))), ((some 36), .op (.addr 0 (.tmp 35))), (none, .op (.store 1 (.tmp 36) (.tmp 34)))]⟩]) <|
  .seq (.region [] [⟨none, [((some 37), .op (.addr 1 (.tmp 7))), ((some 38), .op (.load none (.tmp 37))), ((some 39), .op (.addr 2 (.tmp 7))), ((some 40), .op (.load none (.tmp 39))), ((some 41), .op (.build [(.val (.string ⟨#[]⟩)), (.val (.complex .f64 0 0))] [(0, 1, (.tmp 38)), (1, 1, (.tmp 40))])), (none, .op (.store 2 (.tmp 6) (.tmp 41)))]⟩]) <|
  .ret,
  [.cell 6 (some 2)], 42⟩
theorem D_gerundref08_reader_take_ok : compDF Tryz.prog 119 [] = some D_gerundref08_reader_take := by kernel_rfl

def D_gerundref08_reader_fail : DF := ⟨.seq (.seq (.region [] [⟨none, [((some 2), .op (.mov (.tmp 0))), ((some 3), .op (.nilc (.tmp 2))), ((some 4), .op (.addr 3 (.tmp 3))), ((some 5), .op (.load none (.tmp 4))), ((some 6), .op (.arith .neq (.tmp 5) (.val (.val (.int .i64 0)))))]⟩]) <|
  .cond (.tmp 6) (.ret) (.skip)) <|
  .seq (.region [] [⟨none, [((some 7), .op (.mov (.tmp 0))), ((some 8), .op (.mov (.tmp 0))), ((some 9), .op (.mov (.tmp 0))), ((some 10), .op (.nilc (.tmp 9))), ((some 11), .op (.addr 1 (.tmp 10))), ((some 12), .op (.load none (.tmp 11))), ((some 13), .op (.nilc (.tmp 7))), ((some 14), .op (.addr 2 (.tmp 13))), (none, .op (.store 1 (.tmp 14) (.tmp 12))), ((some 15), .op (.nilc (.tmp 8))), ((some 16), .op (.addr 3 (.tmp 15))), (none, .op (.store 1 (.tmp 16) (.val (.val (.int .i64 4)))))]⟩]) <|
  .seq (.region [] [⟨none, [((some 17), .op (.mov (.tmp 0))), ((some 18), .op (.nilc (.tmp 17))), ((some 19), .op (.addr 0 (.tmp 18))), ((some 20), .op (.load none (.tmp 19))), ((some 21), .op (.len (.tmp 20))), ((some 22), .op (.arith .gtr (.tmp 21) (.val (.val (.int .i64 0)))))]⟩]) <|
  .cond (.tmp 22) (.region [] [⟨none, [((some 23), .op (.mov (.tmp 0))), ((some 24), .op (.mov (.tmp 0))), ((some 25), .op (.mov (.tmp 0))), ((some 26), .op (.nilc (.tmp 25))), ((some 27), .op (.addr 0 (.tmp 26))), ((some 28), .op (.load none (.tmp 27))), ((some 29), .op (.idx 3 (.tmp 28) (.val (.val (.int .i64 0))))), ((some 30), .op (.addr 2 (.tmp 29))), ((some 31), .op (.load none (.tmp 30))), ((some 32), .op (.nilc (.tmp 23))), ((some 33), .op (.addr 2 (.tmp 32))), (none, .op (.store 1 (.tmp 33) (.tmp 31))), ((some 34), .op (.nilc (.tmp 24))), ((some 35), .op (.addr 3 (.tmp 34))), (none, .op (.store 1 (.tmp 35) (.val (.val (.int .i64 3)))))]⟩]) (.skip),
  [], 36⟩
theorem D_gerundref08_reader_fail_ok : compDF Tryz.prog 122 [] = some D_gerundref08_reader_fail := by kernel_rfl

def E_gerundref08_reader_decls_0 : DC :=
  .seq (.seq (.region [] [⟨none, [((some 6), .op (.mov (.tmp 0))), ((some 7), .op (.nilc (.tmp 6))), ((some 8), .op (.addr 3 (.tmp 7))), ((some 9), .op (.load none (.tmp 8))), ((some 10), .op (.arith .eql (.tmp 9) (.val (.val (.int .i64 0))))), ((some 11), .op (.mov (.tmp 10)))]⟩, ⟨(some (11, true)), [((some 12), .op (.mov (.tmp 0))), ((some 13), .op (.nilc (.tmp 12))), ((some 14), .op (.addr 0 (.tmp 13))), ((some 15), .op (.load none (.tmp 14))), ((some 16), .op (.len (.tmp 15))), ((some 17), .op (.arith .gtr (.tmp 16) (.val (.val (.int .i64 0)))))]⟩, ⟨none, [((some 18), .op (.pick (.tmp 11) (.tmp 17) (.val (.val (.bool false))))), ((some 19), .op (.mov (.tmp 18)))]⟩, ⟨(some (19, true)), [((some 20), .op (.mov (.tmp 0))), ((some 21), .call (.val (.fn 121 [] [])) [(.tmp 20)]), ((some 22), .op (.arith .neq (.tmp 21) (.val (.val (.int .i64 9)))))]⟩, ⟨none, [((some 23), .op (.pick (.tmp 19) (.tmp 22) (.val (.val (.bool false)))))]⟩]) <|
  .cond (.tmp 23) (.skip) (.exit 0)) <|
  .block 1 (.seq (.region [] [⟨none, [((some 24), .op (.mov (.tmp 0))), ((some 25), .call (.val (.fn 121 [] [])) [(.tmp 24)]), ((some 4), .op (.mov (.tmp 25)))]⟩]) <|
  .seq (.seq (.region [] [⟨none, [((some 26), .op (.mov (.tmp 4))), ((some 27), .op (.arith .eql (.tmp 26) (.val (.val (.int .i64 7)))))]⟩]) <|
  .cond (.tmp 27) (.seq (.region [] [⟨none, [((some 28), .op (.mov (.tmp 0))), ((some 29), .op (.mov (.tmp 4))), ((some 30), .op (.mov (.tmp 4))), ((some 31), .call (.val (.fn 119 [] [])) [(.tmp 28), (.tmp 29), (.tmp 30)])]⟩]) <|
  .seq (.region [] [⟨none, [((some 32), .op (.mov (.tmp 3))), ((some 33), .op (.mov (.tmp 4))), ((some 34), .op (.mov (.tmp 0))), ((some 35), .call (.val (.fn 119 [] [])) [(.tmp 34), (.val (.val (.int .i64 1))), (.val (.val (.int .i64 1)))]), ((some 36), .op (.bslice 1 2 [(.val (.string ⟨#[]⟩)), (.val (.complex .f64 0 0))] [(0, (.tmp 35))])), ((some 37), .op (.build [(.val (.int .i64 0)), (.emp 1)] [(0, 1, (.tmp 33)), (1, 1, (.tmp 36))])), ((some 38), .op (.bslice 1 2 [(.val (.int .i64 0)), (.emp 1)] [(0, (.tmp 37))])), ((some 39), .op (.app 2 32 (.tmp 32) (.tmp 38))), ((some 3), .op (.mov (.tmp 39)))]⟩]) <|
  .exit 1) (.skip)) <|
  .seq (.seq (.region [] [⟨none, [((some 40), .op (.mov (.tmp 4))), ((some 41), .op (.arith .neq (.tmp 40) (.val (.val (.int .i64 3))))), ((some 42), .op (.mov (.tmp 41)))]⟩, ⟨(some (42, true)), [((some 43), .op (.mov (.tmp 4))), ((some 44), .op (.arith .neq (.tmp 43) (.val (.val (.int .i64 4)))))]⟩, ⟨none, [((some 45), .op (.pick (.tmp 42) (.tmp 44) (.val (.val (.bool false))))), ((some 46), .op (.mov (.tmp 45)))]⟩, ⟨(some (46, true)), [((some 47), .op (.mov (.tmp 4))), ((some 48), .op (.arith .neq (.tmp 47) (.val (.val (.int .i64 5)))))]⟩, ⟨none, [((some 49), .op (.pick (.tmp 46) (.tmp 48) (.val (.val (.bool false))))), ((some 50), .op (.mov (.tmp 49)))]⟩, ⟨(some (50, true)), [((some 51), .op (.mov (.tmp 4))), ((some 52), .op (.arith .neq (.tmp 51) (.val (.val (.int .i64 6)))))]⟩, ⟨none, [((some 53), .op (.pick (.tmp 50) (.tmp 52) (.val (.val (.bool false)))))]⟩]) <|
  .cond (.tmp 53) (.seq (.region [] [⟨none, [((some 54), .op (.mov (.tmp 0))), ((some 55), .call (.val (.fn 122 [] [])) [(.tmp 54)])]⟩]) <|
  .exit 1) (.skip)) <|
  .seq (.region [] [⟨none, [((some 56), .op (.mov (.tmp 0))), ((some 57), .op (.mov (.tmp 4))), ((some 58), .op (.mov (.tmp 4))), ((some 59), .call (.val (.fn 119 [] [])) [(.tmp 56), (.tmp 57), (.tmp 58)])]⟩]) <|
  .seq (.region [] [⟨none, [((some 60), .op (.mov (.tmp 0))), ((some 61), .call (.val (.fn 119 [] [])) [(.tmp 60), (.val (.val (.int .i64 1))), (.val (.val (.int .i64 2)))]), ((some 5), .op (.alloc [(.val (.string ⟨#[]⟩)), (.val (.complex .f64 0 0))])), (none, .op (.store 2 (.tmp 5) (.tmp 61)))]⟩]) <|
  .region [(2, 5), (3, 5)] [⟨none, [((some 62), .op (.mov (.tmp 3))), ((some 63), .op (.mov (.tmp 4))), ((some 64), .op (.load (some 2) (.tmp 5))), ((some 65), .op (.bslice 1 2 [(.val (.string ⟨#[]⟩)), (.val (.complex .f64 0 0))] [(0, (.tmp 64))])), ((some 66), .op (.mov (.tmp 0))), ((some 67), .call (.val (.fn 139 [] [])) [(.tmp 66)]), ((some 68), .op (.app 2 32 (.tmp 65) (.tmp 67))), ((some 69), .op (.build [(.val (.int .i64 0)), (.emp 1)] [(0, 1, (.tmp 63)), (1, 1, (.tmp 68))])), ((some 70), .op (.bslice 1 2 [(.val (.int .i64 0)), (.emp 1)] [(0, (.tmp 69))])), ((some 71), .op (.app 2 32 (.tmp 62) (.tmp 70))), ((some 3), .op (.mov (.tmp 71)))]⟩])
def D_gerundref08_reader_decls : DF := ⟨.seq (.region [] [⟨none, [((some 2), .op (.mov (.val (.emp 1))))]⟩]) <|
  .seq (.region [] [⟨none, [((some 3), .op (.mov (.val (.emp 1))))]⟩]) <|
  .seq (.block 0 (.loop E_gerundref08_reader_decls_0)) <|
  .seq (.region [] [⟨none, [((some 72), .op (.mov (.tmp 3))), ((some 2), .op (.mov (.tmp 72)))]⟩]) <|
  .ret,
  [.tmp 2], 73⟩
theorem D_gerundref08_reader_decls_ok : compDF Tryz.prog 118 [] = some D_gerundref08_reader_decls := by kernel_rfl

def E_gerundref09_Build_0 : DC :=
  .seq (.seq (.region [] [⟨none, [((some 17), .op (.mov (.tmp 6))), ((some 18), .op (.addr 1 (.tmp 1))), ((some 19), .op (.load none (.tmp 18))), ((some 20), .op (.len (.tmp 19))), ((some 21), .op (.arith .lss (.tmp 17) (.tmp 20))), ((some 22), .op (.mov (.tmp 21)))]⟩, ⟨(some (22, true)), [((some 23), .op (.mov (.tmp 5))), ((some 24), .op (.nilc (.tmp 23))), ((some 25), .op (.addr 10 (.tmp 24))), ((some 26), .op (.load none (.tmp 25))), ((some 27), .op (.arith .eql (.tmp 26) (.val (.val (.int .i64 0)))))]⟩, ⟨none, [((some 28), .op (.pick (.tmp 22) (.tmp 27) (.val (.val (.bool false)))))]⟩]) <|
  .cond (.tmp 28) (.skip) (.exit 0)) <|
  .seq (.block 1 (.region [] [⟨none, [((some 31), .op (.mov (.tmp 5))), ((some 32), .op (.addr 1 (.tmp 1))), ((some 33), .op (.load none (.tmp 32))), ((some 34), .op (.mov (.tmp 6))), ((some 35), .op (.idx 5 (.tmp 33) (.tmp 34))), ((some 36), .op (.load (some 5) (.tmp 35))), ((some 37), .call (.val (.fn 99 [] [])) [(.tmp 31), (.tmp 36)])]⟩])) <|
  .region [] [⟨none, [((some 29), .op (.mov (.tmp 6))), ((some 30), .op (.arith .add (.tmp 29) (.val (.val (.int .i64 1))))), ((some 6), .op (.mov (.tmp 30)))]⟩]
def D_gerundref09_Build : DF := ⟨.seq (.region [] [⟨none, [((some 1), .op (.frz (.tmp 0))), ((some 2), .op (.alloc [(.emp 1), (.emp 1), (.emp 1), (.val (.int .i64 0))])), ((some 3), .op (.mov (.val (.val (.complex .f64 0 0))))), ((some 4), .op (.mov (.val (.val (.int .i64 0)))))]⟩]) <|
  .seq (.region [] [⟨none, [((some 7), .op (.build [(.emp 1), (.emp 1), (.emp 1), (.val (.int .i64 0)), (.emp 1), (.val (.string ⟨#[]⟩)), (.val (.complex .f64 0 0)), (.val (.bool false)), (.val (.int .i64 0)), (.val (.complex .f64 0 0)), (.val (.int .i64 0))] [])), ((some 8), .op (.box (.tmp 7))), ((some 5), .op (.mov (.tmp 8)))]⟩]) <|
  .seq (.region [] [⟨none, [((some 9), .op (.mov (.tmp 5))), ((some 10), .op (.addr 0 (.tmp 1))), ((some 11), .op (.load none (.tmp 10))), ((some 12), .call (.val (.fn 97 [] [])) [(.tmp 9), (.tmp 11)])]⟩]) <|
  .seq (.region [] [⟨none, [((some 13), .op (.mov (.tmp 5))), ((some 14), .op (.addr 1 (.tmp 1))), ((some 15), .op (.load none (.tmp 14))), ((some 16), .call (.val (.fn 98 [] [])) [(.tmp 13), (.tmp 15)])]⟩]) <|
  .seq (.seq (.region [] [⟨none, [((some 6), .op (.mov (.val (.val (.int .i64 0)))))]⟩]) <|
  .block 0 (.loop E_gerundref09_Build_0)) <|
  .seq (.seq (.region [] [⟨none, [((some 38), .op (.mov (.tmp 5))), ((some 39), .op (.nilc (.tmp 38))), ((some 40), .op (.addr 7 (.tmp 39))), ((some 41), .op (.load none (.tmp 40))), ((some 42), .op (.mov (.tmp 41)))]⟩, ⟨(some (42, true)), [((some 43), .op (.mov (.tmp 5))), ((some 44), .op (.nilc (.tmp 43))), ((some 45), .op (.addr 0 (.tmp 44))), ((some 46), .op (.load (some 4) (.tmp 45))), ((some 47), .op (.mov (.tmp 5))), ((some 48), .op (.nilc (.tmp 47))), ((some 49), .op (.addr 5 (.tmp 48))), ((some 50), .op (.addr 0 (.tmp 49))), ((some 51), .op (.load none (.tmp 50))), ((some 52), .call (.val (.fn 87 [] [])) [(.tmp 46), (.tmp 51)]), ((some 53), .op (.arith .lss (.tmp 52) (.val (.val (.int .i64 0)))))]⟩, ⟨none, [((some 54), .op (.pick (.tmp 42) (.tmp 53) (.val (.val (.bool false)))))]⟩]) <|
  .cond (.tmp 54) (.region [] [⟨none, [((some 55), .op (.mov (.tmp 5))), ((some 56), .op (.mov (.tmp 5))), ((some 57), .op (.nilc (.tmp 56))), ((some 58), .op (.addr 5 (.tmp 57))), ((some 59), .op (.load (some 2) (.tmp 58))), ((some 60), .call (.val (.fn 100 [] [])) [(.tmp 55), (.tmp 59), (.val (.val (.int .i64 8)))])]⟩]) (.skip)) <|
  .seq (.seq (.region [] [⟨none, [((some 61), .op (.addr 1 (.tmp 1))), ((some 62), .op (.load none (.tmp 61))), ((some 63), .op (.len (.tmp 62))), ((some 64), .op (.arith .eql (.tmp 63) (.val (.val (.int .i64 0)))))]⟩]) <|
  .cond (.tmp 64) (.region [] [⟨none, [((some 65), .op (.mov (.tmp 5))), ((some 66), .op (.build [(.val (.string ⟨#[]⟩)), (.val (.complex .f64 0 0))] [])), ((some 67), .call (.val (.fn 100 [] [])) [(.tmp 65), (.tmp 66), (.val (.val (.int .i64 8)))])]⟩]) (.skip)) <|
  .seq (.seq (.region [] [⟨none, [((some 68), .op (.mov (.tmp 5))), ((some 69), .op (.nilc (.tmp 68))), ((some 70), .op (.addr 10 (.tmp 69))), ((some 71), .op (.load none (.tmp 70))), ((some 72), .op (.arith .neq (.tmp 71) (.val (.val (.int .i64 0)))))]⟩]) <|
  .cond (.tmp 72) (.seq (.region [(4, 9), (8, 9)] [⟨none, [((some 73), .op (.build [(.emp 1), (.emp 1), (.emp 1), (.val (.int .i64 0))] [])), ((some 74), .op (.mov (.tmp 5))), ((some 75), .op (.nilc (.tmp 74))), ((some 76), .op (.addr 9 (.tmp 75))), ((some 77), .op (.load none (.tmp 76))), ((some 78), .op (.mov (.tmp 5))), ((some 79), .op (.nilc (.tmp 78))), ((some 80), .op (.addr 10 (.tmp 79))), ((some 81), .op (.load none (.tmp 80))), (none, .op (.store 4 (.tmp 2) (.tmp 73))), ((some 3), .op (.mov (.tmp 77))), ((some 4), .op (.mov (.tmp 81)))]⟩]) <|
  .ret) (.skip)) <|
  .seq (.seq (.region [] [⟨none, [((some 82), .op (.mov (.tmp 5))), ((some 83), .op (.nilc (.tmp 82))), ((some 84), .op (.addr 7 (.tmp 83))), ((some 85), .op (.load none (.tmp 84)))]⟩]) <|
  .cond (.tmp 85) (.region [] [⟨none, [((some 86), .op (.mov (.tmp 5))), ((some 87), .op (.mov (.tmp 5))), ((some 88), .op (.nilc (.tmp 87))), ((some 89), .op (.addr 0 (.tmp 88))), ((some 90), .op (.load (some 4) (.tmp 89))), ((some 91), .op (.mov (.tmp 5))), ((some 92), .op (.nilc (.tmp 91))), ((some 93), .op (.addr 5 (.tmp 92))), ((some 94), .op (.addr 0 (.tmp 93))), ((some 95), .op (.load none (.tmp 94))), ((some 96), .call (.val (.fn 87 [] [])) [(.tmp 90), (.tmp 95)]), ((some 97), .op (.nilc (.tmp 86))), ((some 98), .op (.addr 0 (.tmp 97))), ((some 99), .op (.addr 3 (.tmp 98))), (none, .op (.store 1 (.tmp 99) (.tmp 96)))]⟩]) (.skip)) <|
  .seq (.region [] [⟨none, [((some 100), .op (.mov (.tmp 5))), ((some 101), .op (.nilc (.tmp 100))), ((some 102), .op (.addr 0 (.tmp 101))), ((some 103), .op (.load (some 4) (.tmp 102))), (none, .op (.store 4 (.tmp 2) (.tmp 103))), ((some 3), .op (.mov (.val (.val (.complex .f64 0 0))))), ((some 4), .op (.mov (.val (.val (.int .i64 0)))))]⟩]) <|
  .ret,
  [.cell 2 (some 4), .tmp 3, .tmp 4], 104⟩
theorem D_gerundref09_Build_ok : compDF Tryz.prog 68 [1] = some D_gerundref09_Build := by kernel_rfl

def E_gerundref09_work_prod_0 : DC :=
  .seq (.seq (.region [] [⟨none, [((some 28), .op (.mov (.tmp 5))), ((some 29), .op (.addr 2 (.tmp 3))), ((some 30), .op (.load none (.tmp 29))), ((some 31), .op (.len (.tmp 30))), ((some 32), .op (.arith .lss (.tmp 28) (.tmp 31))), ((some 33), .op (.mov (.tmp 32)))]⟩, ⟨(some (33, true)), [((some 34), .op (.mov (.tmp 0))), ((some 35), .op (.nilc (.tmp 34))), ((some 36), .op (.addr 10 (.tmp 35))), ((some 37), .op (.load none (.tmp 36))), ((some 38), .op (.arith .eql (.tmp 37) (.val (.val (.int .i64 0)))))]⟩, ⟨none, [((some 39), .op (.pick (.tmp 33) (.tmp 38) (.val (.val (.bool false)))))]⟩]) <|
  .cond (.tmp 39) (.skip) (.exit 0)) <|
  .seq (.block 1 (.seq (.region [] [⟨none, [((some 42), .op (.addr 2 (.tmp 3))), ((some 43), .op (.load none (.tmp 42))), ((some 44), .op (.mov (.tmp 5))), ((some 45), .op (.idx 2 (.tmp 43) (.tmp 44))), ((some 46), .op (.load (some 2) (.tmp 45))), ((some 6), .op (.alloc [(.val (.string ⟨#[]⟩)), (.val (.complex .f64 0 0))])), (none, .op (.store 2 (.tmp 6) (.tmp 46)))]⟩]) <|
  .seq (.seq (.region [] [⟨none, [((some 47), .op (.addr 0 (.tmp 6))), ((some 48), .op (.load none (.tmp 47))), ((some 49), .call (.val (.fn 83 [] [])) [(.tmp 48)]), ((some 50), .op (.not (.tmp 49)))]⟩]) <|
  .cond (.tmp 50) (.seq (.region [] [⟨none, [((some 51), .op (.mov (.tmp 0))), ((some 52), .op (.load (some 2) (.tmp 6))), ((some 53), .call (.val (.fn 100 [] [])) [(.tmp 51), (.tmp 52), (.val (.val (.int .i64 3)))])]⟩]) <|
  .ret) (.skip)) <|
  .seq (.seq (.region [] [⟨none, [((some 54), .op (.mov (.tmp 5))), ((some 55), .op (.arith .eql (.tmp 54) (.val (.val (.int .i64 6)))))]⟩]) <|
  .cond (.tmp 55) (.seq (.region [] [⟨none, [((some 56), .op (.mov (.tmp 0))), ((some 57), .op (.load (some 2) (.tmp 6))), ((some 58), .call (.val (.fn 100 [] [])) [(.tmp 56), (.tmp 57), (.val (.val (.int .i64 5)))])]⟩]) <|
  .ret) (.skip)) <|
  .seq (.region [] [⟨none, [((some 59), .op (.mov (.tmp 0))), ((some 60), .op (.load (some 2) (.tmp 6))), ((some 61), .call (.val (.fn 124 [] [])) [(.tmp 59), (.tmp 60), (.val (.val (.bool true)))]), ((some 7), .op (.mov (.tmp 61)))]⟩]) <|
  .seq (.region [] [⟨none, [((some 62), .op (.addr 1 (.tmp 4))), ((some 63), .op (.load none (.tmp 62))), ((some 64), .op (.mov (.tmp 7))), ((some 65), .op (.bslice 1 1 [(.val (.int .i64 0))] [(0, (.tmp 64))])), ((some 66), .op (.app 1 8 (.tmp 63) (.tmp 65))), ((some 67), .op (.addr 1 (.tmp 4))), (none, .op (.store 1 (.tmp 67) (.tmp 66)))]⟩]) <|
  .seq (.region [] [⟨none, [((some 68), .op (.mov (.tmp 7))), ((some 69), .op (.arith .geq (.tmp 68) (.val (.val (.int .i64 0)))))]⟩]) <|
  .cond (.tmp 69) (.region [] [⟨none, [((some 70), .op (.mov (.tmp 7))), ((some 71), .op (.addr 2 (.tmp 4))), (none, .op (.store 1 (.tmp 71) (.tmp 70)))]⟩]) (.skip))) <|
  .region [] [⟨none, [((some 40), .op (.mov (.tmp 5))), ((some 41), .op (.arith .add (.tmp 40) (.val (.val (.int .i64 1))))), ((some 5), .op (.mov (.tmp 41)))]⟩]
def D_gerundref09_work_prod : DF := ⟨.seq (.region [] [⟨none, [((some 3), .op (.frz (.tmp 1)))]⟩]) <|
  .seq (.region [(7, 9)] [⟨none, [((some 8), .op (.mov (.tmp 0))), ((some 9), .op (.nilc (.tmp 8))), ((some 10), .op (.addr 0 (.tmp 9))), ((some 11), .op (.load (some 4) (.tmp 10))), ((some 12), .op (.addr 0 (.tmp 3))), ((some 13), .op (.addr 0 (.tmp 12))), ((some 14), .op (.load none (.tmp 13))), ((some 15), .call (.val (.fn 87 [] [])) [(.tmp 11), (.tmp 14)]), ((some 16), .op (.build [(.val (.int .i64 0)), (.emp 1), (.val (.int .i64 0))] [(0, 1, (.tmp 15)), (2, 1, (.val (.val (.int .i64 (-1)))))])), ((some 4), .op (.alloc [(.val (.int .i64 0)), (.emp 1), (.val (.int .i64 0))])), (none, .op (.store 3 (.tmp 4) (.tmp 16)))]⟩]) <|
  .seq (.seq (.region [] [⟨none, [((some 17), .op (.mov (.tmp 0))), ((some 18), .op (.nilc (.tmp 17))), ((some 19), .op (.addr 0 (.tmp 18))), ((some 20), .op (.addr 2 (.tmp 19))), ((some 21), .op (.load none (.tmp 20))), ((some 22), .op (.len (.tmp 21))), ((some 23), .op (.arith .eql (.tmp 22) (.val (.val (.int .i64 40)))))]⟩]) <|
  .cond (.tmp 23) (.region [] [⟨none, [((some 24), .op (.mov (.tmp 0))), ((some 25), .op (.addr 0 (.tmp 3))), ((some 26), .op (.load (some 2) (.tmp 25))), ((some 27), .call (.val (.fn 100 [] [])) [(.tmp 24), (.tmp 26), (.val (.val (.int .i64 5)))])]⟩]) (.skip)) <|
  .seq (.seq (.region [] [⟨none, [((some 5), .op (.mov (.val (.val (.int .i64 0)))))]⟩]) <|
  .block 0 (.loop E_gerundref09_work_prod_0)) <|
  .seq (.seq (.region [] [⟨none, [((some 72), .op (.addr 3 (.tmp 3))), ((some 73), .op (.addr 0 (.tmp 72))), ((some 74), .op (.load none (.tmp 73))), ((some 75), .op (.sop .neq (.tmp 74) (.val (.val (.string ⟨#[]⟩))))), ((some 76), .op (.mov (.tmp 75)))]⟩, ⟨(some (76, true)), [((some 77), .op (.mov (.tmp 0))), ((some 78), .op (.nilc (.tmp 77))), ((some 79), .op (.addr 10 (.tmp 78))), ((some 80), .op (.load none (.tmp 79))), ((some 81), .op (.arith .eql (.tmp 80) (.val (.val (.int .i64 0)))))]⟩, ⟨none, [((some 82), .op (.pick (.tmp 76) (.tmp 81) (.val (.val (.bool false)))))]⟩]) <|
  .cond (.tmp 82) (.seq (.seq (.region [] [⟨none, [((some 83), .op (.addr 3 (.tmp 3))), ((some 84), .op (.addr 0 (.tmp 83))), ((some 85), .op (.load none (.tmp 84))), ((some 86), .call (.val (.fn 83 [] [])) [(.tmp 85)]), ((some 87), .op (.not (.tmp 86)))]⟩]) <|
  .cond (.tmp 87) (.seq (.region [] [⟨none, [((some 88), .op (.mov (.tmp 0))), ((some 89), .op (.addr 3 (.tmp 3))), ((some 90), .op (.load (some 2) (.tmp 89))), ((some 91), .call (.val (.fn 100 [] [])) [(.tmp 88), (.tmp 90), (.val (.val (.int .i64 3)))])]⟩]) <|
  .ret) (.skip)) <|
  .region [] [⟨none, [((some 92), .op (.mov (.tmp 0))), ((some 93), .op (.addr 3 (.tmp 3))), ((some 94), .op (.load (some 2) (.tmp 93))), ((some 95), .call (.val (.fn 124 [] [])) [(.tmp 92), (.tmp 94), (.val (.val (.bool false)))]), ((some 96), .op (.addr 2 (.tmp 4))), (none, .op (.store 1 (.tmp 96) (.tmp 95)))]⟩]) (.skip)) <|
  .region [] [⟨none, [((some 97), .op (.mov (.tmp 0))), ((some 98), .op (.mov (.tmp 0))), ((some 99), .op (.nilc (.tmp 98))), ((some 100), .op (.addr 0 (.tmp 99))), ((some 101), .op (.addr 2 (.tmp 100))), ((some 102), .op (.load none (.tmp 101))), ((some 103), .op (.load (some 3) (.tmp 4))), ((some 104), .op (.bslice 1 3 [(.val (.int .i64 0)), (.emp 1), (.val (.int .i64 0))] [(0, (.tmp 103))])), ((some 105), .op (.app 3 40 (.tmp 102) (.tmp 104))), ((some 106), .op (.nilc (.tmp 97))), ((some 107), .op (.addr 0 (.tmp 106))), ((some 108), .op (.addr 2 (.tmp 107))), (none, .op (.store 1 (.tmp 108) (.tmp 105)))]⟩],
  [], 109⟩
theorem D_gerundref09_work_prod_ok : compDF Tryz.prog 99 [3] = some D_gerundref09_work_prod := by kernel_rfl

def D_gerundref09_named : DF := ⟨.seq (.region [] [⟨none, [((some 2), .op (.mov (.val (.val (.bool false)))))]⟩]) <|
  .seq (.region [] [⟨none, [((some 3), .op (.mov (.tmp 0))), ((some 4), .call (.val (.fn 86 [] [])) [(.tmp 3)]), ((some 5), .op (.mov (.tmp 4)))]⟩, ⟨(some (5, false)), [((some 6), .op (.mov (.tmp 0))), ((some 7), .call (.val (.fn 111 [] [])) [(.tmp 6)])]⟩, ⟨none, [((some 8), .op (.pick (.tmp 5) (.val (.val (.bool true))) (.tmp 7))), ((some 2), .op (.mov (.tmp 8)))]⟩]) <|
  .ret,
  [.tmp 2], 9⟩
theorem D_gerundref09_named_ok : compDF Tryz.prog 83 [] = some D_gerundref09_named := by kernel_rfl

def E_gerundref07_Name_0 : DC :=
  .seq (.seq (.region [] [⟨none, [((some 18), .op (.mov (.tmp 3))), ((some 19), .op (.mov (.tmp 0))), ((some 20), .op (.lenS (.tmp 19))), ((some 21), .op (.arith .lss (.tmp 18) (.tmp 20)))]⟩]) <|
  .cond (.tmp 21) (.skip) (.exit 0)) <|
  .seq (.block 1 (.seq (.region [] [⟨none, [((some 24), .op (.mov (.tmp 0))), ((some 25), .op (.mov (.tmp 3))), ((some 26), .op (.sidx (.tmp 24) (.tmp 25))), ((some 27), .call (.val (.fn 113 [] [])) [(.tmp 26)]), ((some 28), .op (.not (.tmp 27)))]⟩]) <|
  .cond (.tmp 28) (.seq (.region [] [⟨none, [((some 2), .op (.mov (.val (.val (.bool false)))))]⟩]) <|
  .ret) (.skip))) <|
  .region [] [⟨none, [((some 22), .op (.mov (.tmp 3))), ((some 23), .op (.arith .add (.tmp 22) (.val (.val (.int .i64 1))))), ((some 3), .op (.mov (.tmp 23)))]⟩]
def D_gerundref07_Name : DF := ⟨.seq (.region [] [⟨none, [((some 2), .op (.mov (.val (.val (.bool false)))))]⟩]) <|
  .seq (.seq (.region [] [⟨none, [((some 4), .op (.mov (.tmp 0))), ((some 5), .op (.lenS (.tmp 4))), ((some 6), .op (.arith .eql (.tmp 5) (.val (.val (.int .i64 0))))), ((some 7), .op (.mov (.tmp 6)))]⟩, ⟨(some (7, false)), [((some 8), .op (.mov (.tmp 0))), ((some 9), .op (.lenS (.tmp 8))), ((some 10), .op (.arith .gtr (.tmp 9) (.val (.val (.int .i64 20)))))]⟩, ⟨none, [((some 11), .op (.pick (.tmp 7) (.val (.val (.bool true))) (.tmp 10))), ((some 12), .op (.mov (.tmp 11)))]⟩, ⟨(some (12, false)), [((some 13), .op (.mov (.tmp 0))), ((some 14), .op (.sidx (.tmp 13) (.val (.val (.int .i64 0))))), ((some 15), .call (.val (.fn 112 [] [])) [(.tmp 14)]), ((some 16), .op (.not (.tmp 15)))]⟩, ⟨none, [((some 17), .op (.pick (.tmp 12) (.val (.val (.bool true))) (.tmp 16)))]⟩]) <|
  .cond (.tmp 17) (.seq (.region [] [⟨none, [((some 2), .op (.mov (.val (.val (.bool false)))))]⟩]) <|
  .ret) (.skip)) <|
  .seq (.seq (.region [] [⟨none, [((some 3), .op (.mov (.val (.val (.int .i64 0)))))]⟩]) <|
  .block 0 (.loop E_gerundref07_Name_0)) <|
  .seq (.region [] [⟨none, [((some 2), .op (.mov (.val (.val (.bool true)))))]⟩]) <|
  .ret,
  [.tmp 2], 29⟩
theorem D_gerundref07_Name_ok : compDF Tryz.prog 86 [] = some D_gerundref07_Name := by kernel_rfl

def D_gerundref09_work_fail : DF := ⟨.seq (.region [] [⟨none, [((some 4), .op (.frz (.tmp 1)))]⟩]) <|
  .seq (.region [] [⟨none, [((some 6), .op (.mov (.tmp 0))), ((some 7), .op (.nilc (.tmp 6))), ((some 8), .op (.addr 10 (.tmp 7))), ((some 9), .op (.load none (.tmp 8))), ((some 10), .op (.arith .eql (.tmp 9) (.val (.val (.int .i64 0)))))]⟩]) <|
  .cond (.tmp 10) (.region [] [⟨none, [((some 11), .op (.mov (.tmp 0))), ((some 12), .op (.mov (.tmp 0))), ((some 13), .op (.addr 1 (.tmp 4))), ((some 14), .op (.load none (.tmp 13))), ((some 15), .op (.mov (.tmp 2))), ((some 16), .op (.nilc (.tmp 11))), ((some 17), .op (.addr 9 (.tmp 16))), (none, .op (.store 1 (.tmp 17) (.tmp 14))), ((some 18), .op (.nilc (.tmp 12))), ((some 19), .op (.addr 10 (.tmp 18))), (none, .op (.store 1 (.tmp 19) (.tmp 15)))]⟩]) (.skip),
  [], 20⟩
theorem D_gerundref09_work_fail_ok : compDF Tryz.prog 100 [4] = some D_gerundref09_work_fail := by kernel_rfl

def D_gerundref09_work_symbol : DF := ⟨.seq (.region [] [⟨none, [((some 4), .op (.frz (.tmp 1))), ((some 6), .op (.mov (.val (.val (.int .i64 0)))))]⟩]) <|
  .seq (.region [] [⟨none, [((some 8), .op (.mov (.tmp 0))), ((some 9), .op (.nilc (.tmp 8))), ((some 10), .op (.addr 0 (.tmp 9))), ((some 11), .op (.load (some 4) (.tmp 10))), ((some 12), .op (.addr 0 (.tmp 4))), ((some 13), .op (.load none (.tmp 12))), ((some 14), .call (.val (.fn 87 [] [])) [(.tmp 11), (.tmp 13)]), ((some 7), .op (.mov (.tmp 14)))]⟩]) <|
  .seq (.block 0 (.seq (.region [] [⟨none, [((some 19), .op (.mov (.tmp 7))), ((some 20), .op (.arith .geq (.tmp 19) (.val (.val (.int .i64 0))))), ((some 21), .op (.mov (.tmp 20)))]⟩, ⟨(some (21, true)), [((some 22), .op (.mov (.tmp 2)))]⟩, ⟨none, [((some 23), .op (.pick (.tmp 21) (.tmp 22) (.val (.val (.bool false))))), ((some 18), .op (.mov (.tmp 23)))]⟩]) <|
  .cond (.tmp 18) (.seq (.region [] [⟨none, [((some 24), .op (.mov (.tmp 7))), ((some 25), .op (.arith .sub (.val (.val (.int .i64 (-1)))) (.tmp 24))), ((some 6), .op (.mov (.tmp 25)))]⟩]) <|
  .ret) (.seq (.region [] [⟨none, [((some 27), .op (.mov (.tmp 7))), ((some 28), .op (.arith .geq (.tmp 27) (.val (.val (.int .i64 0))))), ((some 26), .op (.mov (.tmp 28)))]⟩]) <|
  .cond (.tmp 26) (.region [] [⟨none, [((some 29), .op (.mov (.tmp 0))), ((some 30), .op (.load (some 2) (.tmp 4))), ((some 31), .call (.val (.fn 100 [] [])) [(.tmp 29), (.tmp 30), (.val (.val (.int .i64 6)))])]⟩]) (.seq (.region [] [⟨none, [((some 33), .op (.mov (.tmp 0))), ((some 34), .op (.nilc (.tmp 33))), ((some 35), .op (.addr 0 (.tmp 34))), ((some 36), .op (.load (some 4) (.tmp 35))), ((some 37), .op (.addr 0 (.tmp 4))), ((some 38), .op (.load none (.tmp 37))), ((some 39), .call (.val (.fn 84 [] [])) [(.tmp 36), (.tmp 38)]), ((some 40), .op (.arith .geq (.tmp 39) (.val (.val (.int .i64 0))))), ((some 41), .op (.mov (.tmp 40)))]⟩, ⟨(some (41, false)), [((some 42), .op (.addr 0 (.tmp 4))), ((some 43), .op (.load none (.tmp 42))), ((some 44), .call (.val (.fn 111 [] [])) [(.tmp 43)])]⟩, ⟨none, [((some 45), .op (.pick (.tmp 41) (.val (.val (.bool true))) (.tmp 44))), ((some 46), .op (.mov (.tmp 45)))]⟩, ⟨(some (46, false)), [((some 47), .op (.addr 0 (.tmp 4))), ((some 48), .op (.load none (.tmp 47))), ((some 49), .op (.sop .eql (.tmp 48) (.val (.val (.string ⟨#[101, 114, 114, 111, 114]⟩)))))]⟩, ⟨none, [((some 50), .op (.pick (.tmp 46) (.val (.val (.bool true))) (.tmp 49))), ((some 32), .op (.mov (.tmp 50)))]⟩]) <|
  .cond (.tmp 32) (.seq (.region [] [⟨none, [((some 51), .op (.mov (.tmp 0))), ((some 52), .op (.load (some 2) (.tmp 4))), ((some 53), .call (.val (.fn 142 [] [])) [(.tmp 51), (.tmp 52)]), ((some 6), .op (.mov (.tmp 53)))]⟩]) <|
  .ret) (.region [] [⟨none, [((some 15), .op (.mov (.tmp 0))), ((some 16), .op (.load (some 2) (.tmp 4))), ((some 17), .call (.val (.fn 100 [] [])) [(.tmp 15), (.tmp 16), (.val (.val (.int .i64 6)))])]⟩]))))) <|
  .seq (.region [] [⟨none, [((some 6), .op (.mov (.val (.val (.int .i64 0)))))]⟩]) <|
  .ret,
  [.tmp 6], 54⟩
theorem D_gerundref09_work_symbol_ok : compDF Tryz.prog 124 [4] = some D_gerundref09_work_symbol := by kernel_rfl

def E_gerundref09_non_0 : DC :=
  .seq (.seq (.region [] [⟨none, [((some 6), .op (.mov (.tmp 5))), ((some 7), .op (.addr 1 (.tmp 2))), ((some 8), .op (.load none (.tmp 7))), ((some 9), .op (.len (.tmp 8))), ((some 10), .op (.arith .lss (.tmp 6) (.tmp 9)))]⟩]) <|
  .cond (.tmp 10) (.skip) (.exit 0)) <|
  .seq (.block 1 (.seq (.region [] [⟨none, [((some 13), .op (.addr 1 (.tmp 2))), ((some 14), .op (.load none (.tmp 13))), ((some 15), .op (.mov (.tmp 5))), ((some 16), .op (.idx 1 (.tmp 14) (.tmp 15))), ((some 17), .op (.load none (.tmp 16))), ((some 18), .op (.mov (.tmp 1))), ((some 19), .op (.sop .eql (.tmp 17) (.tmp 18)))]⟩]) <|
  .cond (.tmp 19) (.seq (.region [] [⟨none, [((some 20), .op (.mov (.tmp 5))), ((some 4), .op (.mov (.tmp 20)))]⟩]) <|
  .ret) (.skip))) <|
  .region [] [⟨none, [((some 11), .op (.mov (.tmp 5))), ((some 12), .op (.arith .add (.tmp 11) (.val (.val (.int .i64 1))))), ((some 5), .op (.mov (.tmp 12)))]⟩]
def D_gerundref09_non : DF := ⟨.seq (.region [] [⟨none, [((some 2), .op (.frz (.tmp 0))), ((some 4), .op (.mov (.val (.val (.int .i64 0)))))]⟩]) <|
  .seq (.seq (.region [] [⟨none, [((some 5), .op (.mov (.val (.val (.int .i64 0)))))]⟩]) <|
  .block 0 (.loop E_gerundref09_non_0)) <|
  .seq (.region [] [⟨none, [((some 4), .op (.mov (.val (.val (.int .i64 (-1))))))]⟩]) <|
  .ret,
  [.tmp 4], 21⟩
theorem D_gerundref09_non_ok : compDF Tryz.prog 87 [2] = some D_gerundref09_non := by kernel_rfl

def E_gerundref09_term_0 : DC :=
  .seq (.seq (.region [] [⟨none, [((some 6), .op (.mov (.tmp 5))), ((some 7), .op (.addr 0 (.tmp 2))), ((some 8), .op (.load none (.tmp 7))), ((some 9), .op (.len (.tmp 8))), ((some 10), .op (.arith .lss (.tmp 6) (.tmp 9)))]⟩]) <|
  .cond (.tmp 10) (.skip) (.exit 0)) <|
  .seq (.block 1 (.seq (.region [] [⟨none, [((some 13), .op (.addr 0 (.tmp 2))), ((some 14), .op (.load none (.tmp 13))), ((some 15), .op (.mov (.tmp 5))), ((some 16), .op (.idx 3 (.tmp 14) (.tmp 15))), ((some 17), .op (.addr 0 (.tmp 16))), ((some 18), .op (.load none (.tmp 17))), ((some 19), .op (.mov (.tmp 1))), ((some 20), .op (.sop .eql (.tmp 18) (.tmp 19)))]⟩]) <|
  .cond (.tmp 20) (.seq (.region [] [⟨none, [((some 21), .op (.mov (.tmp 5))), ((some 4), .op (.mov (.tmp 21)))]⟩]) <|
  .ret) (.skip))) <|
  .region [] [⟨none, [((some 11), .op (.mov (.tmp 5))), ((some 12), .op (.arith .add (.tmp 11) (.val (.val (.int .i64 1))))), ((some 5), .op (.mov (.tmp 12)))]⟩]
def D_gerundref09_term : DF := ⟨.seq (.region [] [⟨none, [((some 2), .op (.frz (.tmp 0))), ((some 4), .op (.mov (.val (.val (.int .i64 0)))))]⟩]) <|
  .seq (.seq (.region [] [⟨none, [((some 5), .op (.mov (.val (.val (.int .i64 0)))))]⟩]) <|
  .block 0 (.loop E_gerundref09_term_0)) <|
  .seq (.region [] [⟨none, [((some 4), .op (.mov (.val (.val (.int .i64 (-1))))))]⟩]) <|
  .ret,
  [.tmp 4], 22⟩
theorem D_gerundref09_term_ok : compDF Tryz.prog 84 [2] = some D_gerundref09_term := by kernel_rfl

def D_gerundref09_work_terminal : DF := ⟨.seq (.region [] [⟨none, [((some 3), .op (.frz (.tmp 1))), ((some 4), .op (.mov (.val (.val (.int .i64 0)))))]⟩]) <|
  .seq (.region [] [⟨none, [((some 6), .op (.mov (.tmp 0))), ((some 7), .op (.nilc (.tmp 6))), ((some 8), .op (.addr 0 (.tmp 7))), ((some 9), .op (.load (some 4) (.tmp 8))), ((some 10), .op (.addr 0 (.tmp 3))), ((some 11), .op (.load none (.tmp 10))), ((some 12), .call (.val (.fn 84 [] [])) [(.tmp 9), (.tmp 11)]), ((some 5), .op (.mov (.tmp 12)))]⟩]) <|
  .seq (.seq (.region [] [⟨none, [((some 13), .op (.mov (.tmp 5))), ((some 14), .op (.arith .geq (.tmp 13) (.val (.val (.int .i64 0)))))]⟩]) <|
  .cond (.tmp 14) (.seq (.region [] [⟨none, [((some 15), .op (.mov (.tmp 5))), ((some 4), .op (.mov (.tmp 15)))]⟩]) <|
  .ret) (.skip)) <|
  .seq (.seq (.region [] [⟨none, [((some 16), .op (.mov (.tmp 0))), ((some 17), .op (.nilc (.tmp 16))), ((some 18), .op (.addr 0 (.tmp 17))), ((some 19), .op (.addr 0 (.tmp 18))), ((some 20), .op (.load none (.tmp 19))), ((some 21), .op (.len (.tmp 20))), ((some 22), .op (.arith .eql (.tmp 21) (.val (.val (.int .i64 24)))))]⟩]) <|
  .cond (.tmp 22) (.seq (.region [] [⟨none, [((some 23), .op (.mov (.tmp 0))), ((some 24), .op (.load (some 2) (.tmp 3))), ((some 25), .call (.val (.fn 100 [] [])) [(.tmp 23), (.tmp 24), (.val (.val (.int .i64 5)))])]⟩]) <|
  .seq (.region [] [⟨none, [((some 4), .op (.mov (.val (.val (.int .i64 0)))))]⟩]) <|
  .ret) (.skip)) <|
  .seq (.region [] [⟨none, [((some 26), .op (.mov (.tmp 0))), ((some 27), .op (.mov (.tmp 0))), ((some 28), .op (.nilc (.tmp 27))), ((some 29), .op (.addr 0 (.tmp 28))), ((some 30), .op (.addr 0 (.tmp 29))), ((some 31), .op (.load none (.tmp 30))), ((some 32), .op (.addr 0 (.tmp 3))), ((some 33), .op (.load none (.tmp 32))), ((some 34), .op (.build [(.val (.string ⟨#[]⟩)), (.val (.int .i64 0)), (.val (.int .i64 0))] [(0, 1, (.tmp 33))])), ((some 35), .op (.bslice 1 3 [(.val (.string ⟨#[]⟩)), (.val (.int .i64 0)), (.val (.int .i64 0))] [(0, (.tmp 34))])), ((some 36), .op (.app 3 32 (.tmp 31) (.tmp 35))), ((some 37), .op (.nilc (.tmp 26))), ((some 38), .op (.addr 0 (.tmp 37))), ((some 39), .op (.addr 0 (.tmp 38))), (none, .op (.store 1 (.tmp 39) (.tmp 36)))]⟩]) <|
  .seq (.region [] [⟨none, [((some 40), .op (.mov (.tmp 0))), ((some 41), .op (.nilc (.tmp 40))), ((some 42), .op (.addr 0 (.tmp 41))), ((some 43), .op (.addr 0 (.tmp 42))), ((some 44), .op (.load none (.tmp 43))), ((some 45), .op (.len (.tmp 44))), ((some 46), .op (.arith .sub (.tmp 45) (.val (.val (.int .i64 1))))), ((some 4), .op (.mov (.tmp 46)))]⟩]) <|
  .ret,
  [.tmp 4], 47⟩
theorem D_gerundref09_work_terminal_ok : compDF Tryz.prog 142 [3] = some D_gerundref09_work_terminal := by kernel_rfl

def E_gerundref09_work_decls_0 : DC :=
  .seq (.seq (.region [] [⟨none, [((some 60), .op (.mov (.tmp 7))), ((some 61), .op (.addr 1 (.tmp 5))), ((some 62), .op (.load none (.tmp 61))), ((some 63), .op (.len (.tmp 62))), ((some 64), .op (.arith .lss (.tmp 60) (.tmp 63))), ((some 65), .op (.mov (.tmp 64)))]⟩, ⟨(some (65, true)), [((some 66), .op (.mov (.tmp 0))), ((some 67), .op (.nilc (.tmp 66))), ((some 68), .op (.addr 10 (.tmp 67))), ((some 69), .op (.load none (.tmp 68))), ((some 70), .op (.arith .eql (.tmp 69) (.val (.val (.int .i64 0)))))]⟩, ⟨none, [((some 71), .op (.pick (.tmp 65) (.tmp 70) (.val (.val (.bool false)))))]⟩]) <|
  .cond (.tmp 71) (.skip) (.exit 2)) <|
  .seq (.block 3 (.region [] [⟨none, [((some 74), .op (.mov (.tmp 0))), ((some 75), .op (.addr 0 (.tmp 5))), ((some 76), .op (.load none (.tmp 75))), ((some 77), .op (.addr 1 (.tmp 5))), ((some 78), .op (.load none (.tmp 77))), ((some 79), .op (.mov (.tmp 7))), ((some 80), .op (.idx 2 (.tmp 78) (.tmp 79))), ((some 81), .op (.load (some 2) (.tmp 80))), ((some 82), .call (.val (.fn 123 [] [])) [(.tmp 74), (.tmp 76), (.tmp 81)])]⟩])) <|
  .region [] [⟨none, [((some 72), .op (.mov (.tmp 7))), ((some 73), .op (.arith .add (.tmp 72) (.val (.val (.int .i64 1))))), ((some 7), .op (.mov (.tmp 73)))]⟩]
def E_gerundref09_work_decls_1 : DC :=
  .seq (.seq (.region [] [⟨none, [((some 8), .op (.mov (.tmp 4))), ((some 9), .op (.mov (.tmp 1))), ((some 10), .op (.len (.tmp 9))), ((some 11), .op (.arith .lss (.tmp 8) (.tmp 10))), ((some 12), .op (.mov (.tmp 11)))]⟩, ⟨(some (12, true)), [((some 13), .op (.mov (.tmp 0))), ((some 14), .op (.nilc (.tmp 13))), ((some 15), .op (.addr 10 (.tmp 14))), ((some 16), .op (.load none (.tmp 15))), ((some 17), .op (.arith .eql (.tmp 16) (.val (.val (.int .i64 0)))))]⟩, ⟨none, [((some 18), .op (.pick (.tmp 12) (.tmp 17) (.val (.val (.bool false)))))]⟩]) <|
  .cond (.tmp 18) (.skip) (.exit 0)) <|
  .seq (.block 1 (.seq (.region [] [⟨none, [((some 21), .op (.mov (.tmp 1))), ((some 22), .op (.mov (.tmp 4))), ((some 23), .op (.idx 2 (.tmp 21) (.tmp 22))), ((some 24), .op (.load (some 2) (.tmp 23))), ((some 5), .op (.alloc [(.val (.int .i64 0)), (.emp 1)])), (none, .op (.store 2 (.tmp 5) (.tmp 24)))]⟩]) <|
  .seq (.seq (.region [] [⟨none, [((some 25), .op (.addr 0 (.tmp 5))), ((some 26), .op (.load none (.tmp 25))), ((some 27), .op (.arith .lss (.tmp 26) (.val (.val (.int .i64 3))))), ((some 28), .op (.mov (.tmp 27)))]⟩, ⟨(some (28, false)), [((some 29), .op (.addr 0 (.tmp 5))), ((some 30), .op (.load none (.tmp 29))), ((some 31), .op (.arith .gtr (.tmp 30) (.val (.val (.int .i64 7)))))]⟩, ⟨none, [((some 32), .op (.pick (.tmp 28) (.val (.val (.bool true))) (.tmp 31)))]⟩]) <|
  .cond (.tmp 32) (.seq (.region [] [⟨none, [((some 33), .op (.build [(.val (.string ⟨#[]⟩)), (.val (.complex .f64 0 0))] [])), ((some 6), .op (.alloc [(.val (.string ⟨#[]⟩)), (.val (.complex .f64 0 0))])), (none, .op (.store 2 (.tmp 6) (.tmp 33)))]⟩]) <|
  .seq (.seq (.region [] [⟨none, [((some 34), .op (.addr 1 (.tmp 5))), ((some 35), .op (.load none (.tmp 34))), ((some 36), .op (.len (.tmp 35))), ((some 37), .op (.arith .gtr (.tmp 36) (.val (.val (.int .i64 0)))))]⟩]) <|
  .cond (.tmp 37) (.region [] [⟨none, [((some 38), .op (.addr 1 (.tmp 5))), ((some 39), .op (.load none (.tmp 38))), ((some 40), .op (.idx 2 (.tmp 39) (.val (.val (.int .i64 0))))), ((some 41), .op (.load (some 2) (.tmp 40))), (none, .op (.store 2 (.tmp 6) (.tmp 41)))]⟩]) (.skip)) <|
  .seq (.region [] [⟨none, [((some 42), .op (.mov (.tmp 0))), ((some 43), .op (.load (some 2) (.tmp 6))), ((some 44), .call (.val (.fn 100 [] [])) [(.tmp 42), (.tmp 43), (.val (.val (.int .i64 3)))])]⟩]) <|
  .ret) (.skip)) <|
  .seq (.seq (.region [] [⟨none, [((some 45), .op (.addr 0 (.tmp 5))), ((some 46), .op (.load none (.tmp 45))), ((some 47), .op (.arith .neq (.tmp 46) (.val (.val (.int .i64 3))))), ((some 48), .op (.mov (.tmp 47)))]⟩, ⟨(some (48, true)), [((some 49), .op (.addr 0 (.tmp 5))), ((some 50), .op (.load none (.tmp 49))), ((some 51), .op (.arith .neq (.tmp 50) (.val (.val (.int .i64 7)))))]⟩, ⟨none, [((some 52), .op (.pick (.tmp 48) (.tmp 51) (.val (.val (.bool false)))))]⟩]) <|
  .cond (.tmp 52) (.region [] [⟨none, [((some 53), .op (.mov (.tmp 0))), ((some 54), .op (.nilc (.tmp 53))), ((some 55), .op (.addr 8 (.tmp 54))), ((some 56), .op (.load none (.tmp 55))), ((some 57), .op (.arith .add (.tmp 56) (.val (.val (.int .i64 1))))), ((some 58), .op (.nilc (.tmp 53))), ((some 59), .op (.addr 8 (.tmp 58))), (none, .op (.store 1 (.tmp 59) (.tmp 57)))]⟩]) (.skip)) <|
  .seq (.region [] [⟨none, [((some 7), .op (.mov (.val (.val (.int .i64 0)))))]⟩]) <|
  .block 2 (.loop E_gerundref09_work_decls_0))) <|
  .region [] [⟨none, [((some 19), .op (.mov (.tmp 4))), ((some 20), .op (.arith .add (.tmp 19) (.val (.val (.int .i64 1))))), ((some 4), .op (.mov (.tmp 20)))]⟩]
def D_gerundref09_work_decls : DF := ⟨.seq (.region [] [⟨none, [((some 4), .op (.mov (.val (.val (.int .i64 0)))))]⟩]) <|
  .block 0 (.loop E_gerundref09_work_decls_1),
  [], 83⟩
theorem D_gerundref09_work_decls_ok : compDF Tryz.prog 97 [] = some D_gerundref09_work_decls := by kernel_rfl

def D_gerundref09_work_declare : DF := ⟨.seq (.region [] [⟨none, [((some 5), .op (.frz (.tmp 2)))]⟩]) <|
  .block 0 (.seq (.region [] [⟨none, [((some 63), .op (.addr 0 (.tmp 5))), ((some 64), .op (.load none (.tmp 63))), ((some 65), .call (.val (.fn 83 [] [])) [(.tmp 64)]), ((some 66), .op (.not (.tmp 65))), ((some 67), .op (.mov (.tmp 66)))]⟩, ⟨(some (67, false)), [((some 68), .op (.mov (.tmp 1))), ((some 69), .op (.arith .eql (.tmp 68) (.val (.val (.int .i64 7))))), ((some 70), .op (.mov (.tmp 69)))]⟩, ⟨(some (70, true)), [((some 71), .op (.addr 0 (.tmp 5))), ((some 72), .op (.load none (.tmp 71))), ((some 73), .call (.val (.fn 86 [] [])) [(.tmp 72)]), ((some 74), .op (.not (.tmp 73)))]⟩, ⟨(some (67, false)), [((some 75), .op (.pick (.tmp 70) (.tmp 74) (.val (.val (.bool false)))))]⟩, ⟨none, [((some 76), .op (.pick (.tmp 67) (.val (.val (.bool true))) (.tmp 75))), ((some 62), .op (.mov (.tmp 76)))]⟩]) <|
  .cond (.tmp 62) (.region [] [⟨none, [((some 77), .op (.mov (.tmp 0))), ((some 78), .op (.load (some 2) (.tmp 5))), ((some 79), .call (.val (.fn 100 [] [])) [(.tmp 77), (.tmp 78), (.val (.val (.int .i64 3)))])]⟩]) (.seq (.region [] [⟨none, [((some 81), .op (.mov (.tmp 1))), ((some 82), .op (.arith .eql (.tmp 81) (.val (.val (.int .i64 7))))), ((some 80), .op (.mov (.tmp 82)))]⟩]) <|
  .cond (.tmp 80) (.seq (.seq (.region [] [⟨none, [((some 83), .op (.mov (.tmp 0))), ((some 84), .op (.nilc (.tmp 83))), ((some 85), .op (.addr 7 (.tmp 84))), ((some 86), .op (.load none (.tmp 85)))]⟩]) <|
  .cond (.tmp 86) (.region [] [⟨none, [((some 87), .op (.mov (.tmp 0))), ((some 88), .op (.load (some 2) (.tmp 5))), ((some 89), .call (.val (.fn 100 [] [])) [(.tmp 87), (.tmp 88), (.val (.val (.int .i64 7)))])]⟩]) (.skip)) <|
  .region [] [⟨none, [((some 90), .op (.mov (.tmp 0))), ((some 91), .op (.mov (.tmp 0))), ((some 92), .op (.load (some 2) (.tmp 5))), ((some 93), .op (.nilc (.tmp 90))), ((some 94), .op (.addr 5 (.tmp 93))), (none, .op (.store 2 (.tmp 94) (.tmp 92))), ((some 95), .op (.nilc (.tmp 91))), ((some 96), .op (.addr 7 (.tmp 95))), (none, .op (.store 1 (.tmp 96) (.val (.val (.bool true)))))]⟩]) (.seq (.region [] [⟨none, [((some 98), .op (.mov (.tmp 1))), ((some 99), .op (.arith .eql (.tmp 98) (.val (.val (.int .i64 3))))), ((some 97), .op (.mov (.tmp 99)))]⟩]) <|
  .cond (.tmp 97) (.seq (.seq (.region [] [⟨none, [((some 100), .op (.mov (.tmp 0))), ((some 101), .op (.nilc (.tmp 100))), ((some 102), .op (.addr 4 (.tmp 101))), ((some 103), .op (.load none (.tmp 102))), ((some 104), .op (.addr 0 (.tmp 5))), ((some 105), .op (.load none (.tmp 104))), ((some 106), .call (.val (.fn 141 [] [])) [(.tmp 103), (.tmp 105)])]⟩]) <|
  .cond (.tmp 106) (.region [] [⟨none, [((some 107), .op (.mov (.tmp 0))), ((some 108), .op (.load (some 2) (.tmp 5))), ((some 109), .call (.val (.fn 100 [] [])) [(.tmp 107), (.tmp 108), (.val (.val (.int .i64 7)))])]⟩]) (.skip)) <|
  .seq (.region [] [⟨none, [((some 110), .op (.mov (.tmp 0))), ((some 111), .op (.mov (.tmp 0))), ((some 112), .op (.nilc (.tmp 111))), ((some 113), .op (.addr 4 (.tmp 112))), ((some 114), .op (.load none (.tmp 113))), ((some 115), .op (.addr 0 (.tmp 5))), ((some 116), .op (.load none (.tmp 115))), ((some 117), .op (.bslice 1 1 [(.val (.string ⟨#[]⟩))] [(0, (.tmp 116))])), ((some 118), .op (.app 1 16 (.tmp 114) (.tmp 117))), ((some 119), .op (.nilc (.tmp 110))), ((some 120), .op (.addr 4 (.tmp 119))), (none, .op (.store 1 (.tmp 120) (.tmp 118)))]⟩]) <|
  .region [] [⟨none, [((some 121), .op (.mov (.tmp 0))), ((some 122), .op (.load (some 2) (.tmp 5))), ((some 123), .call (.val (.fn 142 [] [])) [(.tmp 121), (.tmp 122)])]⟩]) (.seq (.region [] [⟨none, [((some 7), .op (.mov (.tmp 0))), ((some 8), .op (.nilc (.tmp 7))), ((some 9), .op (.addr 0 (.tmp 8))), ((some 10), .op (.load (some 4) (.tmp 9))), ((some 11), .op (.addr 0 (.tmp 5))), ((some 12), .op (.load none (.tmp 11))), ((some 13), .call (.val (.fn 84 [] [])) [(.tmp 10), (.tmp 12)]), ((some 6), .op (.mov (.tmp 13)))]⟩]) <|
  .seq (.seq (.region [] [⟨none, [((some 14), .op (.mov (.tmp 6))), ((some 15), .op (.arith .geq (.tmp 14) (.val (.val (.int .i64 0))))), ((some 16), .op (.mov (.tmp 15)))]⟩, ⟨(some (16, true)), [((some 17), .op (.mov (.tmp 0))), ((some 18), .op (.nilc (.tmp 17))), ((some 19), .op (.addr 0 (.tmp 18))), ((some 20), .op (.addr 0 (.tmp 19))), ((some 21), .op (.load none (.tmp 20))), ((some 22), .op (.mov (.tmp 6))), ((some 23), .op (.idx 3 (.tmp 21) (.tmp 22))), ((some 24), .op (.addr 1 (.tmp 23))), ((some 25), .op (.load none (.tmp 24))), ((some 26), .op (.arith .gtr (.tmp 25) (.val (.val (.int .i64 0)))))]⟩, ⟨none, [((some 27), .op (.pick (.tmp 16) (.tmp 26) (.val (.val (.bool false)))))]⟩]) <|
  .cond (.tmp 27) (.seq (.region [] [⟨none, [((some 28), .op (.mov (.tmp 0))), ((some 29), .op (.load (some 2) (.tmp 5))), ((some 30), .call (.val (.fn 100 [] [])) [(.tmp 28), (.tmp 29), (.val (.val (.int .i64 7)))])]⟩]) <|
  .ret) (.skip)) <|
  .seq (.region [] [⟨none, [((some 31), .op (.mov (.tmp 0))), ((some 32), .op (.load (some 2) (.tmp 5))), ((some 33), .call (.val (.fn 142 [] [])) [(.tmp 31), (.tmp 32)]), ((some 6), .op (.mov (.tmp 33)))]⟩]) <|
  .seq (.region [] [⟨none, [((some 34), .op (.mov (.tmp 0))), ((some 35), .op (.nilc (.tmp 34))), ((some 36), .op (.addr 10 (.tmp 35))), ((some 37), .op (.load none (.tmp 36))), ((some 38), .op (.arith .eql (.tmp 37) (.val (.val (.int .i64 0)))))]⟩]) <|
  .cond (.tmp 38) (.region [] [⟨none, [((some 39), .op (.mov (.tmp 0))), ((some 40), .op (.nilc (.tmp 39))), ((some 41), .op (.addr 0 (.tmp 40))), ((some 42), .op (.addr 0 (.tmp 41))), ((some 43), .op (.load none (.tmp 42))), ((some 44), .op (.mov (.tmp 6))), ((some 45), .op (.mov (.tmp 0))), ((some 46), .op (.nilc (.tmp 45))), ((some 47), .op (.addr 0 (.tmp 46))), ((some 48), .op (.addr 0 (.tmp 47))), ((some 49), .op (.load none (.tmp 48))), ((some 50), .op (.mov (.tmp 6))), ((some 51), .op (.mov (.tmp 0))), ((some 52), .op (.nilc (.tmp 51))), ((some 53), .op (.addr 8 (.tmp 52))), ((some 54), .op (.load none (.tmp 53))), ((some 55), .op (.mov (.tmp 1))), ((some 56), .op (.arith .sub (.tmp 55) (.val (.val (.int .i64 4))))), ((some 57), .op (.arith .add (.tmp 56) (.val (.val (.int .i64 1))))), ((some 58), .op (.idx 3 (.tmp 43) (.tmp 44))), ((some 59), .op (.addr 1 (.tmp 58))), (none, .op (.store 1 (.tmp 59) (.tmp 54))), ((some 60), .op (.idx 3 (.tmp 49) (.tmp 50))), ((some 61), .op (.addr 2 (.tmp 60))), (none, .op (.store 1 (.tmp 61) (.tmp 57)))]⟩]) (.skip))))),
  [], 124⟩
theorem D_gerundref09_work_declare_ok : compDF Tryz.prog 123 [5] = some D_gerundref09_work_declare := by kernel_rfl

def E_gerundref09_has_0 : DC :=
  .seq (.seq (.region [] [⟨none, [((some 6), .op (.mov (.tmp 5))), ((some 7), .op (.mov (.tmp 0))), ((some 8), .op (.len (.tmp 7))), ((some 9), .op (.arith .lss (.tmp 6) (.tmp 8)))]⟩]) <|
  .cond (.tmp 9) (.skip) (.exit 0)) <|
  .seq (.block 1 (.seq (.region [] [⟨none, [((some 12), .op (.mov (.tmp 0))), ((some 13), .op (.mov (.tmp 5))), ((some 14), .op (.idx 1 (.tmp 12) (.tmp 13))), ((some 15), .op (.load none (.tmp 14))), ((some 16), .op (.mov (.tmp 1))), ((some 17), .op (.sop .eql (.tmp 15) (.tmp 16)))]⟩]) <|
  .cond (.tmp 17) (.seq (.region [] [⟨none, [((some 4), .op (.mov (.val (.val (.bool true)))))]⟩]) <|
  .ret) (.skip))) <|
  .region [] [⟨none, [((some 10), .op (.mov (.tmp 5))), ((some 11), .op (.arith .add (.tmp 10) (.val (.val (.int .i64 1))))), ((some 5), .op (.mov (.tmp 11)))]⟩]
def D_gerundref09_has : DF := ⟨.seq (.region [] [⟨none, [((some 4), .op (.mov (.val (.val (.bool false)))))]⟩]) <|
  .seq (.seq (.region [] [⟨none, [((some 5), .op (.mov (.val (.val (.int .i64 0)))))]⟩]) <|
  .block 0 (.loop E_gerundref09_has_0)) <|
  .seq (.region [] [⟨none, [((some 4), .op (.mov (.val (.val (.bool false)))))]⟩]) <|
  .ret,
  [.tmp 4], 18⟩
theorem D_gerundref09_has_ok : compDF Tryz.prog 141 [] = some D_gerundref09_has := by kernel_rfl

def E_gerundref09_work_lefts_0 : DC :=
  .seq (.seq (.region [] [⟨none, [((some 6), .op (.mov (.tmp 4))), ((some 7), .op (.mov (.tmp 1))), ((some 8), .op (.len (.tmp 7))), ((some 9), .op (.arith .lss (.tmp 6) (.tmp 8))), ((some 10), .op (.mov (.tmp 9)))]⟩, ⟨(some (10, true)), [((some 11), .op (.mov (.tmp 0))), ((some 12), .op (.nilc (.tmp 11))), ((some 13), .op (.addr 10 (.tmp 12))), ((some 14), .op (.load none (.tmp 13))), ((some 15), .op (.arith .eql (.tmp 14) (.val (.val (.int .i64 0)))))]⟩, ⟨none, [((some 16), .op (.pick (.tmp 10) (.tmp 15) (.val (.val (.bool false)))))]⟩]) <|
  .cond (.tmp 16) (.skip) (.exit 0)) <|
  .seq (.block 1 (.seq (.region [] [⟨none, [((some 19), .op (.mov (.tmp 1))), ((some 20), .op (.mov (.tmp 4))), ((some 21), .op (.idx 5 (.tmp 19) (.tmp 20))), ((some 22), .op (.addr 0 (.tmp 21))), ((some 23), .op (.load (some 2) (.tmp 22))), ((some 5), .op (.alloc [(.val (.string ⟨#[]⟩)), (.val (.complex .f64 0 0))])), (none, .op (.store 2 (.tmp 5) (.tmp 23)))]⟩]) <|
  .block 2 (.seq (.region [] [⟨none, [((some 38), .op (.addr 0 (.tmp 5))), ((some 39), .op (.load none (.tmp 38))), ((some 40), .call (.val (.fn 86 [] [])) [(.tmp 39)]), ((some 41), .op (.not (.tmp 40))), ((some 37), .op (.mov (.tmp 41)))]⟩]) <|
  .cond (.tmp 37) (.region [] [⟨none, [((some 42), .op (.mov (.tmp 0))), ((some 43), .op (.load (some 2) (.tmp 5))), ((some 44), .call (.val (.fn 100 [] [])) [(.tmp 42), (.tmp 43), (.val (.val (.int .i64 3)))])]⟩]) (.seq (.region [] [⟨none, [((some 46), .op (.mov (.tmp 0))), ((some 47), .op (.nilc (.tmp 46))), ((some 48), .op (.addr 0 (.tmp 47))), ((some 49), .op (.load (some 4) (.tmp 48))), ((some 50), .op (.addr 0 (.tmp 5))), ((some 51), .op (.load none (.tmp 50))), ((some 52), .call (.val (.fn 84 [] [])) [(.tmp 49), (.tmp 51)]), ((some 53), .op (.arith .geq (.tmp 52) (.val (.val (.int .i64 0))))), ((some 45), .op (.mov (.tmp 53)))]⟩]) <|
  .cond (.tmp 45) (.region [] [⟨none, [((some 54), .op (.mov (.tmp 0))), ((some 55), .op (.load (some 2) (.tmp 5))), ((some 56), .call (.val (.fn 100 [] [])) [(.tmp 54), (.tmp 55), (.val (.val (.int .i64 7)))])]⟩]) (.seq (.region [] [⟨none, [((some 58), .op (.mov (.tmp 0))), ((some 59), .op (.nilc (.tmp 58))), ((some 60), .op (.addr 0 (.tmp 59))), ((some 61), .op (.load (some 4) (.tmp 60))), ((some 62), .op (.addr 0 (.tmp 5))), ((some 63), .op (.load none (.tmp 62))), ((some 64), .call (.val (.fn 87 [] [])) [(.tmp 61), (.tmp 63)]), ((some 65), .op (.arith .geq (.tmp 64) (.val (.val (.int .i64 0))))), ((some 57), .op (.mov (.tmp 65)))]⟩]) <|
  .cond (.tmp 57) (.skip) (.seq (.region [] [⟨none, [((some 67), .op (.mov (.tmp 0))), ((some 68), .op (.nilc (.tmp 67))), ((some 69), .op (.addr 0 (.tmp 68))), ((some 70), .op (.addr 1 (.tmp 69))), ((some 71), .op (.load none (.tmp 70))), ((some 72), .op (.len (.tmp 71))), ((some 73), .op (.arith .eql (.tmp 72) (.val (.val (.int .i64 16))))), ((some 66), .op (.mov (.tmp 73)))]⟩]) <|
  .cond (.tmp 66) (.region [] [⟨none, [((some 74), .op (.mov (.tmp 0))), ((some 75), .op (.load (some 2) (.tmp 5))), ((some 76), .call (.val (.fn 100 [] [])) [(.tmp 74), (.tmp 75), (.val (.val (.int .i64 5)))])]⟩]) (.region [] [⟨none, [((some 24), .op (.mov (.tmp 0))), ((some 25), .op (.mov (.tmp 0))), ((some 26), .op (.nilc (.tmp 25))), ((some 27), .op (.addr 0 (.tmp 26))), ((some 28), .op (.addr 1 (.tmp 27))), ((some 29), .op (.load none (.tmp 28))), ((some 30), .op (.addr 0 (.tmp 5))), ((some 31), .op (.load none (.tmp 30))), ((some 32), .op (.bslice 1 1 [(.val (.string ⟨#[]⟩))] [(0, (.tmp 31))])), ((some 33), .op (.app 1 16 (.tmp 29) (.tmp 32))), ((some 34), .op (.nilc (.tmp 24))), ((some 35), .op (.addr 0 (.tmp 34))), ((some 36), .op (.addr 1 (.tmp 35))), (none, .op (.store 1 (.tmp 36) (.tmp 33)))]⟩]))))))) <|
  .region [] [⟨none, [((some 17), .op (.mov (.tmp 4))), ((some 18), .op (.arith .add (.tmp 17) (.val (.val (.int .i64 1))))), ((some 4), .op (.mov (.tmp 18)))]⟩]
def D_gerundref09_work_lefts : DF := ⟨.seq (.region [] [⟨none, [((some 4), .op (.mov (.val (.val (.int .i64 0)))))]⟩]) <|
  .block 0 (.loop E_gerundref09_work_lefts_0),
  [], 77⟩
theorem D_gerundref09_work_lefts_ok : compDF Tryz.prog 98 [] = some D_gerundref09_work_lefts := by kernel_rfl

def tabRead : List (FuncId × DF) := [(40, D_gerundref09_Read), (67, D_gerundref08_Parse), (95, D_gerundref07_Tokens), (115, D_gerundref07_skip), (131, D_gerundref07_has), (132, D_gerundref07_past), (133, D_gerundref07_line), (134, D_gerundref07_action), (147, D_gerundref07_quoted), (116, D_gerundref06_At), (135, D_gerundref06_Of), (117, D_gerundref07_one), (113, D_gerundref07_later), (112, D_gerundref07_first), (111, D_gerundref07_Literal), (136, D_gerundref07_unended), (137, D_gerundref07_percent), (138, D_gerundref07_mark), (96, D_gerundref08_Of), (121, D_gerundref08_reader_kind), (120, D_gerundref08_reader_group), (139, D_gerundref08_reader_refs), (140, D_gerundref08_reader_is), (119, D_gerundref08_reader_take), (122, D_gerundref08_reader_fail), (118, D_gerundref08_reader_decls), (68, D_gerundref09_Build), (99, D_gerundref09_work_prod), (83, D_gerundref09_named), (86, D_gerundref07_Name), (100, D_gerundref09_work_fail), (124, D_gerundref09_work_symbol), (87, D_gerundref09_non), (84, D_gerundref09_term), (142, D_gerundref09_work_terminal), (97, D_gerundref09_work_decls), (123, D_gerundref09_work_declare), (141, D_gerundref09_has), (98, D_gerundref09_work_lefts)]
theorem tabRead_ok : TabOk Tryz.prog tabRead := by
  intro p hp
  simp only [tabRead, List.mem_cons, List.not_mem_nil, or_false] at hp
  rcases hp with rfl | rfl | rfl | rfl | rfl | rfl | rfl | rfl | rfl | rfl | rfl | rfl | rfl | rfl | rfl | rfl | rfl | rfl | rfl | rfl | rfl | rfl | rfl | rfl | rfl | rfl | rfl | rfl | rfl | rfl | rfl | rfl | rfl | rfl | rfl | rfl | rfl | rfl | rfl
  · exact ⟨_, D_gerundref09_Read_ok⟩
  · exact ⟨_, D_gerundref08_Parse_ok⟩
  · exact ⟨_, D_gerundref07_Tokens_ok⟩
  · exact ⟨_, D_gerundref07_skip_ok⟩
  · exact ⟨_, D_gerundref07_has_ok⟩
  · exact ⟨_, D_gerundref07_past_ok⟩
  · exact ⟨_, D_gerundref07_line_ok⟩
  · exact ⟨_, D_gerundref07_action_ok⟩
  · exact ⟨_, D_gerundref07_quoted_ok⟩
  · exact ⟨_, D_gerundref06_At_ok⟩
  · exact ⟨_, D_gerundref06_Of_ok⟩
  · exact ⟨_, D_gerundref07_one_ok⟩
  · exact ⟨_, D_gerundref07_later_ok⟩
  · exact ⟨_, D_gerundref07_first_ok⟩
  · exact ⟨_, D_gerundref07_Literal_ok⟩
  · exact ⟨_, D_gerundref07_unended_ok⟩
  · exact ⟨_, D_gerundref07_percent_ok⟩
  · exact ⟨_, D_gerundref07_mark_ok⟩
  · exact ⟨_, D_gerundref08_Of_ok⟩
  · exact ⟨_, D_gerundref08_reader_kind_ok⟩
  · exact ⟨_, D_gerundref08_reader_group_ok⟩
  · exact ⟨_, D_gerundref08_reader_refs_ok⟩
  · exact ⟨_, D_gerundref08_reader_is_ok⟩
  · exact ⟨_, D_gerundref08_reader_take_ok⟩
  · exact ⟨_, D_gerundref08_reader_fail_ok⟩
  · exact ⟨_, D_gerundref08_reader_decls_ok⟩
  · exact ⟨_, D_gerundref09_Build_ok⟩
  · exact ⟨_, D_gerundref09_work_prod_ok⟩
  · exact ⟨_, D_gerundref09_named_ok⟩
  · exact ⟨_, D_gerundref07_Name_ok⟩
  · exact ⟨_, D_gerundref09_work_fail_ok⟩
  · exact ⟨_, D_gerundref09_work_symbol_ok⟩
  · exact ⟨_, D_gerundref09_non_ok⟩
  · exact ⟨_, D_gerundref09_term_ok⟩
  · exact ⟨_, D_gerundref09_work_terminal_ok⟩
  · exact ⟨_, D_gerundref09_work_decls_ok⟩
  · exact ⟨_, D_gerundref09_work_declare_ok⟩
  · exact ⟨_, D_gerundref09_has_ok⟩
  · exact ⟨_, D_gerundref09_work_lefts_ok⟩

def encY (l : List Int) : V := .fro (l.map fun x => [gy x])
theorem encY_tree (l : List Int) : Tree (encY l) := tree_fro _ _ fun x _ v hv => by simp at hv; subst hv; exact .val _

/-- What the reader answers at a text that it takes. -/
def readOut (g : Gram) : V := .tup [.agg (encG g), .val (.complex .f64 0 0), gi 0]

theorem read_of {l : List Int} {g : Gram} (h : eClosed Tryz.prog tabRead (fun _ _ => none) 40 [encY l] = some (readOut g)) : PNew Tryz.prog 40 [encY l] (readOut g) :=
  eClosed_ok mixed tabRead_ok (noExt _) (by intro v hv; simp at hv; subst hv; exact encY_tree _) h
end Gv

/-
  What the reader answers at the fixed texts of the first ones.
  Conditions: none.
-/
set_option maxRecDepth 100000
namespace Gv
open Go Go.Proofs
end Gv

/-
  The law's own question, whether the functions are alive; then the law itself.
  Conditions: lists that are no longer than an int says, numbers that are ints.
-/
set_option linter.unusedSimpArgs false
set_option maxRecDepth 100000
namespace Gv
open Go Go.Proofs

theorem View.set_at {H : View} {id : Nat} {o : AObj} (h : H id = o) : H.set id o = H := by
  funext m
  simp only [View.set]
  split
  · rename_i e; subst e; exact h.symm
  · rfl

/-- Bytes, said to be bytes again. -/
theorem oldConvSame {P : Program} {T : Env} {H : View} {K : V → View → Prop} {w : Veil (T, H, K)} {t e ty : TypeId} {x : Operand} {id off len esz z : Nat} {es : List (List V)} (hu : P.underlying t = some (.slice e)) (he : P.underlying e = some (.int .u8))
    (hx : ev T x = .sl id off len esz) (hl : len ≠ 0) (hH : H id = .arr z es) (hk : K (.sl id off len esz) H) : GoOld P (.convert t t x) ty T H K w := by
  intro n _
  have hb : bytesConv P t t = true := by simp [bytesConv, hu]
  refine ⟨.sl id off len esz, .upd id (.arr z es), [id], ?_, ?_⟩
  · simp only [sI, aop, oper]
    rw [if_pos hb, hx]
    simp [aConvert, hu, he, hH, hl]
  · show K _ (H.set id (.arr z es))
    rw [View.set_at hH]; exact hk

theorem lent_bytes {H : View} {n : Nat} (l : List Int) (h : H n = .arr 1 (l.map fun x => [gy x])) : Lent H (.sl n 0 l.length 1) (encY l) :=
  Lent.own (.inr ⟨n, by simp, h⟩) fun e he v hv => by
    obtain ⟨x, _, rfl⟩ := List.mem_map.1 he
    simp at hv; subst hv; exact .val _

/-- A call after which only so much is known of the store. -/
theorem CallG.lendAs {P : Program} {q : Bool} {f : FuncId} {H : View} {vs ts : List V} {K : V → View → Prop} {v : Veil (H, K)} {t : V} (Φ : View → Prop) (hc : PCall P f ts t) (hok : calleeOk P f = true) (hf : Bare t) (hl : Lents H vs ts) (hΦ : Φ H) (hk : ∀ H, Φ H → K t H) : CallG P q f vs H K v :=
  CallG.lend hc hok hf hl (hk H hΦ)

end Gv

/-
  The law on what the functions tell.
  Conditions: lists that are no longer than an int says, numbers that are ints.
-/
set_option linter.unusedSimpArgs false
set_option maxRecDepth 100000
namespace Gv
open Go Go.Proofs

theorem great_small {g : Gram} (e : greatG g = false) : g.Small := by
  simp only [greatG, Bool.or_eq_false_iff, decide_eq_false_iff_not] at e
  exact ⟨by omega⟩
theorem pc_great (g : Gram) : PCall Tryz.prog 13 [.agg (encG g)] (gb (greatG g)) := PCall.val (gg_tree g) fun H => (mc_Great g H).mono fun _ _ h => h.1

end Gv

/-
  What reads as data is a tree of the machine's.
  Conditions: none beyond those that each lemma names.
-/
set_option linter.unusedSimpArgs false
namespace Gv
open Go

/-- The cells are as these values, wherever old blocks are known. -/
def CRel (hp : Array Obj) (cs : List Value) (vs : List V) : Prop :=
  vs.length = cs.length ∧ ∀ μ i, i < vs.length → VRel (fun b => b < hp.size) μ hp (vs.getD i .any) (cs.getD i undef)

/-- All weights are within what a machine reaches. -/
def Wt {H : Type} (P : Program) (t : TypeId) (d : DataW H) : Prop := ∀ n ∈ d.weights P t, n ≤ reachBytes

/-- What reads as data of this type is one of these. -/
def Rdr (P : Program) (t : TypeId) {α : Type} (f : α → List V) (ok : α → Prop) : Prop :=
  ∀ {H : Type} (enc : TypeId × Value → H) (w : World) (base : Nat) (sp : Nat → Bool) (held : Bool) (fuel : Nat) (cs : List Value) (x : DataW H × List MemPlace),
    DataW.trod enc P w base sp held fuel t cs = some x → Wt P t x.1 → ∃ a, ok a ∧ CRel w.heap cs (f a)

theorem crel_one {hp : Array Obj} {c : Value} {v : V} (h : ∀ μ, VRel (fun b => b < hp.size) μ hp v c) : CRel hp [c] [v] := by
  refine ⟨rfl, fun μ i hi => ?_⟩
  match i, hi with
  | 0, _ => exact h μ

theorem rd_int {P : Program} {t : TypeId} {k : IntKind} (ht : P.underlying t = some (.int k)) : Rdr P t (fun n => [.val (.int k n)]) (fun n => (Lit.int k n).wf = true) := by
  intro H enc w base sp held fuel cs x h _
  obtain ⟨n, rfl, _, hw⟩ := DataW.trod_int ht h
  exact ⟨n, hw, crel_one fun μ => .val _ rfl⟩

theorem rd_string {P : Program} {t : TypeId} (ht : P.underlying t = some .string) : Rdr P t (fun s => [.val (.string s)]) (fun _ => True) := by
  intro H enc w base sp held fuel cs x h _
  obtain ⟨s, rfl, _, _⟩ := DataW.trod_string ht h
  exact ⟨s, trivial, crel_one fun μ => .val _ rfl⟩

theorem cells_at {w : World} {base : Nat} {a : Addr} {n : Nat} {cs : List Value} (h : w.cells? base a n = some cs) : cs.length = n ∧ ∀ i, i < n → w.cell? (a.add i) = some (cs.getD i undef) := by
  obtain ⟨_, h2, h3⟩ := World.cells?_some h
  refine ⟨h2, fun i hi => ?_⟩
  rw [h3 i hi, List.getD_eq_getElem?_getD, List.getElem?_eq_getElem (by omega)]
  rfl

theorem cell_none {w : World} {a : Addr} {v : Value} (h : w.cell? a = some v) : a.spot = none ∧ a.block < w.heap.size := by
  unfold World.cell? at h
  split at h
  · rename_i c _ _ hb
    split at h
    · simp at h
    · rename_i hs
      exact ⟨by simpa using hs, (Array.getElem?_eq_some_iff.1 hb).1⟩
  · simp at h

theorem wt_all {H : Type} {P : Program} {e : TypeId} : ∀ {l : List (DataW H)}, (∀ n ∈ DataW.weightsAll P e l, n ≤ reachBytes) → ∀ d ∈ l, Wt P e d
  | [], _, d, hd => by simp at hd
  | x :: l, h, d, hd => by
    simp only [DataW.weightsAll, List.mem_append] at h
    rcases List.mem_cons.1 hd with rfl | hd
    · exact fun n hn => h n (.inl hn)
    · exact wt_all (fun n hn => h n (.inr hn)) d hd

theorem wt_slice {H : Type} {P : Program} {t e : TypeId} {elems spare : List (DataW H)} (ht : P.underlying t = some (.slice e)) (h : Wt P t (.slice elems spare)) :
    (elems.length + spare.length) * P.bytesOf e ≤ reachBytes ∧ ∀ d ∈ elems, Wt P e d := by
  unfold Wt at h
  unfold DataW.weights at h
  rw [ht] at h
  simp only [List.mem_cons, List.mem_append] at h
  exact ⟨h _ (.inl rfl), wt_all fun n hn => h n (.inr (.inl hn))⟩

theorem wt_struct {H : Type} {P : Program} {t : TypeId} {fs : Array Field} {parts : List (DataW H)} (ht : P.underlying t = some (.struct fs)) (h : Wt P t (.agg parts)) {j : Nat} {f : Field} {d : DataW H} (hf : fs[j]? = some f) (hd : parts[j]? = some d) : Wt P f.type d := by
  intro n hn
  refine h n ?_
  unfold DataW.weights
  rw [ht]
  exact DataW.weights_mem_each (j := j) (t := f.type) (by simp [hf]) hd n hn

/-- A list of choices. -/
theorem choices {α : Type} {φ : Nat → α → Prop} : ∀ (n : Nat), (∀ i, i < n → ∃ a, φ i a) → ∃ l : List α, l.length = n ∧ ∀ i (hi : i < l.length), φ i l[i]
  | 0, _ => ⟨[], rfl, fun i hi => by simp at hi⟩
  | n + 1, h => by
    obtain ⟨l, hl, hφ⟩ := choices n fun i hi => h i (by omega)
    obtain ⟨a, ha⟩ := h n (by omega)
    refine ⟨l ++ [a], by simp [hl], fun i hi => ?_⟩
    by_cases e : i < l.length
    · rw [List.getElem_append_left e]; exact hφ i e
    · have : i = n := by simp at hi; omega
      subst this
      rw [List.getElem_append_right (by omega)]
      simp only [hl, Nat.sub_self, List.getElem_cons_zero]; exact ha

theorem rd_slice {P : Program} {t e : TypeId} {α : Type} {f : α → List V} {ok : α → Prop} (ht : P.underlying t = some (.slice e)) (hc : 0 < P.cellsOf e) (hb : 0 < P.bytesOf e) (he : Rdr P e f ok) :
    Rdr P t (fun l : List α => [.fro (l.map f)]) (fun l => l.length < 4611686018427387904 ∧ ∀ a ∈ l, ok a) := by
  intro H enc w base sp held fuel cs x h hw
  rcases DataW.trod_slice ht h with ⟨rfl, rfl⟩ | ⟨a, len, cap, elems, rest, n, _, rfl, rfl, hba, hl, hm, hlen, hel, _, _⟩
  · exact ⟨[], ⟨by simp, by simp⟩, crel_one fun μ => .fro0 none 0 (by simp)⟩
  obtain ⟨hw1, hw2⟩ := wt_slice ht hw
  simp only [List.length_map] at hw1
  have hlt : len < 4611686018427387904 := by
    have h1 : len * 1 ≤ (elems.length + rest.length) * P.bytesOf e := Nat.mul_le_mul (by omega) hb
    unfold reachBytes at hw1
    omega
  have each : ∀ i, i < len → ∃ y, ok y ∧ ∃ ci, w.cells? base (a.add (i * P.cellsOf e)) (P.cellsOf e) = some ci ∧ CRel w.heap ci (f y) := by
    intro i hi
    have h1 := hel i hi
    have h2 : elems[i]? = some (elems[i]'(by omega)) := List.getElem?_eq_getElem (by omega)
    have hmem : elems[i]'(by omega) ∈ elems := List.getElem_mem _
    rw [h2, Option.bind_eq_some_iff] at h1
    obtain ⟨ci, h3, h4⟩ := h1
    obtain ⟨y, h5, h6⟩ := he enc w base sp held n ci _ h4 (hw2 _ (List.mem_map.2 ⟨_, hmem, rfl⟩))
    exact ⟨y, h5, ci, h3, h6⟩
  obtain ⟨l, hll, hφ⟩ := choices len each
  subst hll
  refine ⟨l, ⟨hlt, fun y hy => ?_⟩, crel_one fun μ => ?_⟩
  · obtain ⟨i, hi, rfl⟩ := List.getElem_of_mem hy
    exact (hφ i hi).1
  by_cases h0 : l = []
  · subst h0
    exact .fro0 (some a) cap (by simp)
  have hpos : 0 < l.length := List.length_pos_iff.2 h0
  have hcell : ∀ i j, i < l.length → j < P.cellsOf e → ∃ c, cellAt w.heap a.block (a.off + i * P.cellsOf e + j) = some c ∧ a.block < w.heap.size ∧ (i = 0 → j = 0 → a.spot = none) ∧ ∀ (hi : i < l.length), VRel (fun b => b < w.heap.size) μ w.heap ((f l[i]).getD j .any) c := by
    intro i j hi hj
    obtain ⟨_, ci, h1, h2⟩ := hφ i hi
    obtain ⟨h3, h4⟩ := cells_at h1
    have h5 := h4 j hj
    have h6 := cell_none h5
    have hbk : ((a.add (i * P.cellsOf e)).add j).block = a.block := by simp only [Addr.add]; split <;> split <;> rfl
    have hof : ((a.add (i * P.cellsOf e)).add j).off = a.off + i * P.cellsOf e + j := by
      simp only [Addr.add]; split <;> split <;> simp_all
    refine ⟨ci.getD j undef, ?_, by rw [← hbk]; exact h6.2, ?_, fun _ => ?_⟩
    · rw [← hof, ← hbk, ← cell_eq]
      rw [← h5]
      congr 1
      generalize (a.add (i * P.cellsOf e)).add j = b at h6
      cases b
      simp at h6 ⊢
      exact h6.1.symm
    · rintro rfl rfl
      simp [Addr.add] at h6
      exact h6.1
    · exact h2.2 μ j (by rw [h2.1, h3]; exact hj)
  obtain ⟨_, _, hz, hs, _⟩ := hcell 0 0 hpos hc
  have ha : a = ⟨a.block, a.off, none⟩ := by
    cases a; simp at hs ⊢; exact hs
  have hlf : ∀ i, i < l.length → (f (l[i]?.getD (l[0]'hpos))).length = P.cellsOf e := fun i hi => by
    obtain ⟨_, ci, h1, h2⟩ := hφ i hi
    rw [List.getElem?_eq_getElem hi, Option.getD_some, h2.1, (cells_at h1).1]
  have hgd : ∀ i (hi : i < l.length), (l.map f).getD i [] = f l[i] := fun i hi => by simp [List.getD_eq_getElem?_getD, hi]
  have hcl : (l.map f).length = l.length := by simp
  have := VRel.fro (Z := fun b => b < w.heap.size) (μ := μ) (hp := w.heap) (l.map f) a.block a.off (P.cellsOf e) cap (fun i j => (cellAt w.heap a.block (a.off + i * P.cellsOf e + j)).getD undef) hz (by rw [hcl]; exact hl)
    (fun i hi => by
      rw [hcl] at hi
      have := hlf i hi
      rw [List.getElem?_eq_getElem hi, Option.getD_some] at this
      rw [hgd i hi]; exact this)
    (fun i j hi hj => by
      rw [hcl] at hi
      obtain ⟨c, h1, _⟩ := hcell i j hi hj
      rw [h1]; rfl)
    (fun i j hi hj => by
      rw [hcl] at hi
      obtain ⟨c, h1, _, _, h2⟩ := hcell i j hi hj
      rw [h1, hgd i hi]; exact h2 hi)
  rw [hcl, ← ha] at this
  exact this

/-- A struct whose fields are a cell each. -/
theorem rd_fields {P : Program} {t : TypeId} {fs : Array Field} (ht : P.underlying t = some (.struct fs)) (hf : ∀ (i : Nat) (f : Field), fs[i]? = some f → f.offset = i ∧ P.cellsOf f.type = 1) (hn : P.cellsOf t = fs.size)
    {H : Type} {enc : TypeId × Value → H} {w : World} {base : Nat} {sp : Nat → Bool} {held : Bool} {fuel : Nat} {cs : List Value} {x : DataW H × List MemPlace} (h : DataW.trod enc P w base sp held fuel t cs = some x) (hw : Wt P t x.1) :
    cs.length = fs.size ∧ ∀ (i : Nat) (f : Field), fs[i]? = some f → ∀ {α : Type} {g : α → List V} {ok : α → Prop}, Rdr P f.type g ok → ∃ a, ok a ∧ CRel w.heap [cs.getD i undef] (g a) := by
  obtain ⟨xs, n, rfl, rfl, hl, hlen, hx⟩ := DataW.trod_struct ht h
  refine ⟨by rw [hl, hn], fun i f hi α g ok hr => ?_⟩
  obtain ⟨h1, h2⟩ := hf i f hi
  have hi2 : i < fs.size := (Array.getElem?_eq_some_iff.1 hi).1
  have h3 := hx i f hi
  have h4 : xs[i]? = some (xs[i]'(by omega)) := List.getElem?_eq_getElem (by omega)
  rw [h4, h1, h2] at h3
  have h5 : (cs.drop i).take 1 = [cs.getD i undef] := by
    rw [List.getD_eq_getElem?_getD, List.getElem?_eq_getElem (by omega), List.drop_eq_getElem_cons (by omega)]
    rfl
  rw [h5] at h3
  exact hr enc w base sp held n _ _ h3 (wt_struct ht hw hi (by simp [h4]))

theorem crel_cons {hp : Array Obj} {c : Value} {cs : List Value} {v : V} {vs : List V} (h : CRel hp [c] [v]) (k : CRel hp cs vs) : CRel hp (c :: cs) (v :: vs) := by
  refine ⟨by simp [k.1], fun μ i hi => ?_⟩
  cases i with
  | zero => exact h.2 μ 0 (by simp)
  | succ i => exact k.2 μ i (by simpa using hi)
theorem crel_nil {hp : Array Obj} : CRel hp [] [] := ⟨rfl, fun μ i hi => by simp at hi⟩

end Gv

/-
  Grammars that read as data are grammars of the machine's.
  Conditions: none.
-/
set_option linter.unusedSimpArgs false
set_option maxRecDepth 100000
namespace Gv
open Go Go.Proofs

theorem wf_in64 {n : Int} (h : (Lit.int .i64 n).wf = true) : In64 n := by
  simp only [Lit.wf, Bool.and_eq_true, decide_eq_true_eq] at h
  exact h

theorem rd_goint : Rdr Tryz.prog 3 (fun n => [gi n]) In64 := fun enc w base sp held fuel cs x h hw => by
  obtain ⟨n, h1, h2⟩ := rd_int Tryz.underlying3 enc w base sp held fuel cs x h hw
  exact ⟨n, wf_in64 h1, h2⟩

theorem rd_ints : Rdr Tryz.prog 33 (fun l : List Int => [encI l]) (fun l => Short l ∧ ∀ x ∈ l, In64 x) :=
  rd_slice Tryz.underlying33 (of_decide_eq_true (by kernel_rfl)) (of_decide_eq_true (by kernel_rfl)) rd_goint

theorem rd_strings : Rdr Tryz.prog 23 (fun l : List ByteArray => [encS l]) (fun l => Short l ∧ ∀ x ∈ l, True) :=
  rd_slice Tryz.underlying23 (of_decide_eq_true (by kernel_rfl)) (of_decide_eq_true (by kernel_rfl)) (rd_string Tryz.underlying9)

theorem cs3 {cs : List Value} (h : cs.length = 3) : cs = [cs.getD 0 undef, cs.getD 1 undef, cs.getD 2 undef] := by
  match cs, h with
  | [a, b, c], _ => rfl
theorem cs4 {cs : List Value} (h : cs.length = 4) : cs = [cs.getD 0 undef, cs.getD 1 undef, cs.getD 2 undef, cs.getD 3 undef] := by
  match cs, h with
  | [a, b, c, d], _ => rfl

theorem rd_term : Rdr Tryz.prog 63 encT (fun t => In64 t.level ∧ In64 t.assoc) := fun enc w base sp held fuel cs x h hw => by
  obtain ⟨hl, hf⟩ := rd_fields Tryz.underlying63 (by
    intro i f hi
    match i, hi with
    | 0, hi => simp at hi; subst hi; exact ⟨rfl, by kernel_rfl⟩
    | 1, hi => simp at hi; subst hi; exact ⟨rfl, by kernel_rfl⟩
    | 2, hi => simp at hi; subst hi; exact ⟨rfl, by kernel_rfl⟩
    | n + 3, hi => simp at hi) (by kernel_rfl) h hw
  obtain ⟨a, _, h1⟩ := hf 0 _ rfl (rd_string Tryz.underlying9)
  obtain ⟨b, h2, h3⟩ := hf 1 _ rfl rd_goint
  obtain ⟨c, h4, h5⟩ := hf 2 _ rfl rd_goint
  refine ⟨⟨a, b, c⟩, ⟨h2, h4⟩, ?_⟩
  rw [cs3 hl]
  exact crel_cons h1 (crel_cons h3 (crel_cons h5 crel_nil))

theorem rd_rule : Rdr Tryz.prog 40 encR (fun r => In64 r.left ∧ In64 r.prec ∧ Short r.right ∧ ∀ x ∈ r.right, In64 x) := fun enc w base sp held fuel cs x h hw => by
  obtain ⟨hl, hf⟩ := rd_fields Tryz.underlying40 (by
    intro i f hi
    match i, hi with
    | 0, hi => simp at hi; subst hi; exact ⟨rfl, by kernel_rfl⟩
    | 1, hi => simp at hi; subst hi; exact ⟨rfl, by kernel_rfl⟩
    | 2, hi => simp at hi; subst hi; exact ⟨rfl, by kernel_rfl⟩
    | n + 3, hi => simp at hi) (by kernel_rfl) h hw
  obtain ⟨a, h0, h1⟩ := hf 0 _ rfl rd_goint
  obtain ⟨b, h2, h3⟩ := hf 1 _ rfl rd_ints
  obtain ⟨c, h4, h5⟩ := hf 2 _ rfl rd_goint
  refine ⟨⟨a, b, c⟩, ⟨h0, h4, h2.1, h2.2⟩, ?_⟩
  rw [cs3 hl]
  exact crel_cons h1 (crel_cons h3 (crel_cons h5 crel_nil))

theorem rd_gram : Rdr Tryz.prog 26 encG Gram.Ok := fun enc w base sp held fuel cs x h hw => by
  obtain ⟨hl, hf⟩ := rd_fields Tryz.underlying26 (by
    intro i f hi
    match i, hi with
    | 0, hi => simp at hi; subst hi; exact ⟨rfl, by kernel_rfl⟩
    | 1, hi => simp at hi; subst hi; exact ⟨rfl, by kernel_rfl⟩
    | 2, hi => simp at hi; subst hi; exact ⟨rfl, by kernel_rfl⟩
    | 3, hi => simp at hi; subst hi; exact ⟨rfl, by kernel_rfl⟩
    | n + 4, hi => simp at hi) (by kernel_rfl) h hw
  obtain ⟨a, h0, h1⟩ := hf 0 _ rfl (rd_slice Tryz.underlying22 (of_decide_eq_true (by kernel_rfl)) (of_decide_eq_true (by kernel_rfl)) rd_term)
  obtain ⟨b, h2, h3⟩ := hf 1 _ rfl rd_strings
  obtain ⟨c, h4, h5⟩ := hf 2 _ rfl (rd_slice Tryz.underlying24 (of_decide_eq_true (by kernel_rfl)) (of_decide_eq_true (by kernel_rfl)) rd_rule)
  obtain ⟨d, h6, h7⟩ := hf 3 _ rfl rd_goint
  refine ⟨⟨a, b, c, d⟩, ⟨h0.1, h2.1, h4.1, h6, h0.2, h4.2⟩, ?_⟩
  rw [cs4 hl]
  exact crel_cons h1 (crel_cons h3 (crel_cons h5 (crel_cons h7 crel_nil)))

end Gv

/-
  A copy of a grammar.
  Conditions: lists that are no longer than a few dozen.
-/
set_option linter.unusedSimpArgs false
set_option maxRecDepth 100000
namespace Gv
open Go Go.Proofs

/-- What is no great grammar. -/
structure Gram.Slim (g : Gram) : Prop where
  terms : g.terms.length ≤ 40
  nons : g.nons.length ≤ 40
  rules : g.rules.length ≤ 60
  right : ∀ r ∈ g.rules, r.right.length ≤ 20
end Gv
