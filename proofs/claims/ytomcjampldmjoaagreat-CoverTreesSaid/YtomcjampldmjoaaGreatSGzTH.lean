/-
  Part 8 of the proof: what the machine does and what the functions answer.
  Conditions: those that each lemma names.
-/
import Derived.Test.YtomcjampldmjoaaGreatSGzTG
set_option linter.unusedSimpArgs false
set_option linter.unusedVariables false
set_option linter.unusedSimpArgs false
set_option maxRecDepth 100000
namespace Gv
open Go Go.Proofs
def pC:DF:=⟨.seq (aw [((some 2),.op (.alloc [(.emp 1),(.emp 1),(.emp 1),(.val (.int .i64 0))])),((some 3),.op (.aX (.val (.val (.complex .f64 0 0))))),aH 4 0]) <|
  .seq (aw [ae 9 0,aM 10 70 [9],ae 8 10,bV 11 0 8,bV 12 1 8,bV 13 2 8,((some 5),.op (.alloc [(.emp 1),(.emp 1)])),(none,.op (.store 2 (.tmp 5) (.tmp 11))),ae 6 12,ae 7 13]) <|
  .seq (.seq (aw [ae 14 7,ay 15 .neq 14 0]) <|
  .cond (.tmp 15) (.seq (aw [((some 16),.op (.build [(.emp 1),(.emp 1),(.emp 1),(.val (.int .i64 0))] [])),ae 17 6,ae 18 7,(none,.op (.store 4 (.tmp 2) (.tmp 16))),ae 3 17,ae 4 18]) <|
  .ret) (.skip)) <|
  .seq (aw [aS 19 2 5,aM 20 71 [19],bV 21 0 20,bV 22 1 20,bV 23 2 20,(none,.op (.store 4 (.tmp 2) (.tmp 21))),ae 3 22,ae 4 23]) <|
  .ret,
  [.cell 2 (some 4),.tmp 3,.tmp 4],24⟩
theorem ux:bL Tryz.prog 41 []=some pC:=by kernel_rfl
def ni:DF:=⟨.seq (aw [((some 2),.op (.alloc [(.emp 1),(.emp 1)])),((some 3),.op (.aX (.val (.val (.complex .f64 0 0))))),aH 4 0]) <|
  .seq (aw [ae 9 0,aM 10 120 [9],ae 8 10,bV 11 0 8,bV 12 1 8,bV 13 2 8,ae 5 11,ae 6 12,ae 7 13]) <|
  .seq (.seq (aw [ae 14 7,ay 15 .neq 14 0]) <|
  .cond (.tmp 15) (.seq (aw [((some 16),.op (.build [(.emp 1),(.emp 1)] [])),ae 17 6,ae 18 7,(none,.op (.store 2 (.tmp 2) (.tmp 16))),ae 3 17,ae 4 18]) <|
  .ret) (.skip)) <|
  .seq (aw [ae 19 5,ae 20 6,aM 21 121 [19,20],bV 22 0 21,bV 23 1 21,bV 24 2 21,(none,.op (.store 2 (.tmp 2) (.tmp 22))),ae 3 23,ae 4 24]) <|
  .ret,
  [.cell 2 (some 2),.tmp 3,.tmp 4],25⟩
theorem sT:bL Tryz.prog 70 []=some ni:=by kernel_rfl
def sN:DC :=
  .seq (.seq (.region [] [⟨none,[ae 16 6,ae 17 0,aQ 18 17,aR 19 .lss 16 18,ae 20 19]⟩,⟨(some (20,true)),[ae 21 7,ay 22 .lss 21 2]⟩,⟨none,[bM 23 20 22]⟩]) <|
  .cond (.tmp 23) (.skip) (.exit 0)) <|
  .block 1 (.seq (aw [ae 25 0,ae 26 6,aM 27 176 [25,26],ae 24 27,bV 28 0 24,bV 29 1 24,ae 8 28,ae 9 29]) <|
  .seq (.seq (aw [ae 30 8,ay 31 .lss 30 0]) <|
  .cond (.tmp 31) (.seq (aw [ae 32 0,ae 33 6,aM 34 177 [32,33],((some 2),.op (.aX (.val (.emp 1)))),ae 3 34,aH 4 4]) <|
  .ret) (.skip)) <|
  .seq (.seq (aw [ae 35 9]) <|
  .cond (.tmp 35) (.seq (aw [ae 36 8,ae 6 36]) <|
  .exit 1) (.skip)) <|
  .seq (.region [] [⟨none,[ae 38 0,ae 39 6,aM 40 178 [38,39],ae 37 40,bV 41 0 37,bV 42 1 37,bV 43 2 37,((some 10),.op (.alloc [(.val (.int .i64 0)),(.val (.string ⟨#[]⟩)),(.val (.complex .f64 0 0))])),(none,.op (.store 3 (.tmp 10) (.tmp 41))),ae 11 42,ae 12 43]⟩]) <|
  .seq (.seq (aw [ae 44 12,ay 45 .neq 44 0]) <|
  .cond (.tmp 45) (.seq (aw [aq 46 2 10,an 47 46,ae 48 12,((some 2),.op (.aX (.val (.emp 1)))),ae 3 47,ae 4 48]) <|
  .ret) (.skip)) <|
  .seq (.seq (aw [aq 49 0 10,an 50 49,ay 51 .eql 50 9]) <|
  .cond (.tmp 51) (aw [ae 52 7,ay 53 .add 52 1,ae 7 53]) (.skip)) <|
  .region [] [⟨none,[ae 54 5,aS 55 3 10,((some 56),.op (.bB 1 3 [(.val (.int .i64 0)),(.val (.string ⟨#[]⟩)),(.val (.complex .f64 0 0))] [(0,(.tmp 55))])),((some 57),.op (.app 3 40 (.tmp 54) (.tmp 56))),ae 58 11,ae 5 57,ae 6 58]⟩])
def mq:DF:=⟨.seq (aw [((some 2),.op (.aX (.val (.emp 1)))),((some 3),.op (.aX (.val (.val (.complex .f64 0 0))))),aH 4 0]) <|
  .seq (.seq (aw [ae 13 0,aQ 14 13,ay 15 .gtr 14 4000]) <|
  .cond (.tmp 15) (.seq (aw [((some 2),.op (.aX (.val (.emp 1)))),((some 3),.op (.aX (.val (.val (.complex .f64 0 0))))),aH 4 5]) <|
  .ret) (.skip)) <|
  .seq (aw [((some 5),.op (.aX (.val (.emp 1))))]) <|
  .seq (aw [aH 6 0,aH 7 0]) <|
  .seq (.block 0 (.loop sN)) <|
  .seq (aw [ae 59 5,ae 60 0,ae 61 0,aQ 62 61,aM 63 177 [60,62],ae 2 59,ae 3 63,aH 4 0]) <|
  .ret,
  [.tmp 2,.tmp 3,.tmp 4],64⟩
theorem rQ:bL Tryz.prog 120 []=some mq:=by kernel_rfl
def pH:DF:=⟨.seq (aw [aH 4 0,bg 5 false]) <|
  .seq (.block 0 (.seq (.region [] [⟨none,[ae 7 0,ae 8 1,aN 9 1 7 8,an 10 9,((some 11),.op (.arith .eql (.tmp 10) (.val (.val (.int .u8 32))))),ae 12 11]⟩,⟨(some (12,false)),[ae 13 0,ae 14 1,aN 15 1 13 14,an 16 15,((some 17),.op (.arith .eql (.tmp 16) (.val (.val (.int .u8 9)))))]⟩,⟨none,[bI 18 12 17,ae 19 18]⟩,⟨(some (19,false)),[ae 20 0,ae 21 1,aN 22 1 20 21,an 23 22,((some 24),.op (.arith .eql (.tmp 23) (.val (.val (.int .u8 10)))))]⟩,⟨none,[bI 25 19 24,ae 26 25]⟩,⟨(some (26,false)),[ae 27 0,ae 28 1,aN 29 1 27 28,an 30 29,((some 31),.op (.arith .eql (.tmp 30) (.val (.val (.int .u8 13)))))]⟩,⟨none,[bI 32 26 31,ae 6 32]⟩]) <|
  .cond (.tmp 6) (.seq (aw [ae 33 1,ay 34 .add 33 1,ae 4 34,bg 5 true]) <|
  .ret) (.seq (.region [] [⟨none,[ae 36 0,ae 37 1,cJ 38 215 [(.tmp 36),(.tmp 37),(.val (.val (.string ⟨#[47,42]⟩)))],ae 35 38]⟩]) <|
  .cond (.tmp 35) (.seq (.region [] [⟨none,[ae 39 0,ae 40 1,ay 41 .add 40 2,cJ 42 216 [(.tmp 39),(.tmp 41),(.val (.val (.string ⟨#[42,47]⟩)))],ae 4 42,bg 5 true]⟩]) <|
  .ret) (.seq (.region [] [⟨none,[ae 44 0,ae 45 1,cJ 46 215 [(.tmp 44),(.tmp 45),(.val (.val (.string ⟨#[47,47]⟩)))],ae 43 46]⟩]) <|
  .cond (.tmp 43) (.seq (aw [ae 47 0,ae 48 1,aM 49 217 [47,48],ae 4 49,bg 5 true]) <|
  .ret) (.seq (.region [] [⟨none,[ae 51 0,ae 52 1,cJ 53 215 [(.tmp 51),(.tmp 52),(.val (.val (.string ⟨#[37,123]⟩)))],ae 50 53]⟩]) <|
  .cond (.tmp 50) (.seq (.region [] [⟨none,[ae 54 0,ae 55 1,ay 56 .add 55 2,cJ 57 216 [(.tmp 54),(.tmp 56),(.val (.val (.string ⟨#[37,125]⟩)))],ae 4 57,bg 5 true]⟩]) <|
  .ret) (.seq (aw [ae 59 0,ae 60 1,aN 61 1 59 60,an 62 61,((some 63),.op (.arith .eql (.tmp 62) (.val (.val (.int .u8 60))))),ae 58 63]) <|
  .cond (.tmp 58) (.seq (.region [] [⟨none,[ae 64 0,ae 65 0,ae 66 1,aM 67 217 [65,66],((some 68),.op (.slice 1 (.tmp 64) none (some (.tmp 67)))),ae 69 1,ay 70 .add 69 1,cJ 71 216 [(.tmp 68),(.tmp 70),(.val (.val (.string ⟨#[62]⟩)))],ae 4 71,bg 5 true]⟩]) <|
  .ret) (.seq (aw [ae 73 0,ae 74 1,aN 75 1 73 74,an 76 75,((some 77),.op (.arith .eql (.tmp 76) (.val (.val (.int .u8 123))))),ae 72 77]) <|
  .cond (.tmp 72) (.seq (aw [ae 78 0,ae 79 1,aM 80 218 [78,79],ae 4 80,bg 5 true]) <|
  .ret) (.skip)))))))) <|
  .seq (aw [ae 81 1,ae 4 81,bg 5 false]) <|
  .ret,
  [.tmp 4,.tmp 5],82⟩
theorem uy:bL Tryz.prog 176 []=some pH:=by kernel_rfl
def qi:DF:=⟨.seq (aw [bg 6 false]) <|
  .seq (.region [] [⟨none,[ae 7 1,ae 8 2,((some 9),.op (.gS (.tmp 8))),aR 10 .add 7 9,ae 11 0,aQ 12 11,aR 13 .leq 10 12,ae 14 13]⟩,⟨(some (14,true)),[ae 15 0,ae 16 1,ae 17 1,ae 18 2,((some 19),.op (.gS (.tmp 18))),aR 20 .add 17 19,((some 21),.op (.slice 1 (.tmp 15) (some (.tmp 16)) (some (.tmp 20)))),((some 22),.op (.old (.convert 73 9 (.tmp 21)) 9)),ae 23 2,((some 24),.op (.iV .eql (.tmp 22) (.tmp 23)))]⟩,⟨none,[bM 25 14 24,ae 6 25]⟩]) <|
  .ret,
  [.tmp 6],26⟩
theorem uX:bL Tryz.prog 215 []=some qi:=by kernel_rfl
def vY:DC :=
  .seq (.seq (aw [ae 7 1,ae 8 0,aQ 9 8,aR 10 .lss 7 9]) <|
  .cond (.tmp 10) (.skip) (.exit 0)) <|
  .block 1 (.seq (.seq (aw [ae 11 0,ae 12 1,ae 13 2,aM 14 215 [11,12,13]]) <|
  .cond (.tmp 14) (.seq (aw [ae 15 1,ae 16 2,((some 17),.op (.gS (.tmp 16))),aR 18 .add 15 17,ae 6 18]) <|
  .ret) (.skip)) <|
  aw [ae 19 1,ay 20 .add 19 1,ae 1 20])
def pW:DF:=⟨.seq (aw [aH 6 0]) <|
  .seq (.block 0 (.loop vY)) <|
  .seq (aw [aH 6 (-1)]) <|
  .ret,
  [.tmp 6],21⟩
theorem tU:bL Tryz.prog 216 []=some pW:=by kernel_rfl
def vo:DC :=
  .seq (.seq (.region [] [⟨none,[ae 5 1,ae 6 0,aQ 7 6,aR 8 .lss 5 7,ae 9 8]⟩,⟨(some (9,true)),[ae 10 0,ae 11 1,aN 12 1 10 11,an 13 12,((some 14),.op (.arith .neq (.tmp 13) (.val (.val (.int .u8 10)))))]⟩,⟨none,[bM 15 9 14]⟩]) <|
  .cond (.tmp 15) (.skip) (.exit 0)) <|
  .block 1 (aw [ae 16 1,ay 17 .add 16 1,ae 1 17])
def pk:DF:=⟨.seq (aw [aH 4 0]) <|
  .seq (.block 0 (.loop vo)) <|
  .seq (aw [ae 18 1,ae 4 18]) <|
  .ret,
  [.tmp 4],19⟩
theorem tE:bL Tryz.prog 217 []=some pk:=by kernel_rfl
def tt:DC :=
  .seq (.seq (.region [] [⟨none,[ae 6 1,ay 7 .geq 6 0,ae 8 7]⟩,⟨(some (8,true)),[ae 9 1,ae 10 0,aQ 11 10,aR 12 .lss 9 11]⟩,⟨none,[bM 13 8 12]⟩]) <|
  .cond (.tmp 13) (.skip) (.exit 0)) <|
  .block 1 (.seq (.seq (aw [ae 14 0,ae 15 1,aN 16 1 14 15,an 17 16]) <|
  .block 2 (.seq (aw [((some 21),.op (.arith .eql (.tmp 17) (.val (.val (.int .u8 123))))),ae 20 21]) <|
  .cond (.tmp 20) (.seq (aw [ae 22 5,ay 23 .add 22 1,ae 5 23]) <|
  aw [ae 24 1,ay 25 .add 24 1,ae 1 25]) (.seq (aw [((some 27),.op (.arith .eql (.tmp 17) (.val (.val (.int .u8 125))))),ae 26 27]) <|
  .cond (.tmp 26) (.seq (aw [ae 28 5,ay 29 .sub 28 1,ae 5 29]) <|
  aw [ae 30 1,ay 31 .add 30 1,ae 1 31]) (.seq (.seq (aw [((some 33),.op (.arith .eql (.tmp 17) (.val (.val (.int .u8 39))))),ae 32 33]) <|
  .cond (.tmp 32) (.skip) (aw [((some 34),.op (.arith .eql (.tmp 17) (.val (.val (.int .u8 34))))),ae 32 34])) <|
  .cond (.tmp 32) (aw [ae 35 0,ae 36 1,aM 37 234 [35,36],ae 1 37]) (aw [ae 18 1,ay 19 .add 18 1,ae 1 19]))))) <|
  .seq (.region [] [⟨none,[ae 38 5,ay 39 .eql 38 0,ae 40 39]⟩,⟨(some (40,true)),[ae 41 1,ay 42 .geq 41 0]⟩,⟨none,[bM 43 40 42]⟩]) <|
  .cond (.tmp 43) (.seq (aw [ae 44 1,ae 4 44]) <|
  .ret) (.skip))
def mC:DF:=⟨.seq (aw [aH 4 0]) <|
  .seq (aw [aH 5 0]) <|
  .seq (.block 0 (.loop tt)) <|
  .seq (aw [aH 4 (-1)]) <|
  .ret,
  [.tmp 4],45⟩
theorem rP:bL Tryz.prog 218 []=some mC:=by kernel_rfl
def s8:DC :=
  .seq (.seq (aw [ae 12 1,ae 13 0,aQ 14 13,aR 15 .lss 12 14]) <|
  .cond (.tmp 15) (.skip) (.exit 0)) <|
  .block 1 (.seq (.seq (aw [ae 16 0,ae 17 1,aN 18 1 16 17,an 19 18,ae 20 5,aR 21 .eql 19 20]) <|
  .cond (.tmp 21) (.seq (aw [ae 22 1,ay 23 .add 22 1,ae 4 23]) <|
  .ret) (.skip)) <|
  .seq (.seq (aw [ae 24 0,ae 25 1,aN 26 1 24 25,an 27 26,((some 28),.op (.arith .eql (.tmp 27) (.val (.val (.int .u8 92)))))]) <|
  .cond (.tmp 28) (aw [ae 29 1,ay 30 .add 29 1,ae 1 30]) (.skip)) <|
  aw [ae 31 1,ay 32 .add 31 1,ae 1 32])
def mc:DF:=⟨.seq (aw [aH 4 0]) <|
  .seq (aw [ae 6 0,ae 7 1,aN 8 1 6 7,an 9 8,ae 5 9]) <|
  .seq (aw [ae 10 1,ay 11 .add 10 1,ae 1 11]) <|
  .seq (.block 0 (.loop s8)) <|
  .seq (aw [aH 4 (-1)]) <|
  .ret,
  [.tmp 4],33⟩
theorem rM:bL Tryz.prog 234 []=some mc:=by kernel_rfl
def yi:DC :=
  .seq (.seq (aw [ae 16 7,ae 17 1,aR 18 .lss 16 17]) <|
  .cond (.tmp 18) (.skip) (.exit 0)) <|
  .seq (.block 1 (.seq (aw [ae 21 6,ay 22 .add 21 1,ae 6 22]) <|
  .seq (aw [ae 23 0,ae 24 7,aN 25 1 23 24,an 26 25,((some 27),.op (.arith .eql (.tmp 26) (.val (.val (.int .u8 10)))))]) <|
  .cond (.tmp 27) (aw [ae 28 5,ay 29 .add 28 1,ae 5 29,aH 6 1]) (.skip))) <|
  aw [ae 19 7,ay 20 .add 19 1,ae 7 20]
def rG:DF:=⟨.seq (aw [((some 4),.op (.aX (.val (.val (.complex .f64 0 0)))))]) <|
  .seq (.seq (.region [] [⟨none,[ae 8 1,ay 9 .lss 8 0,ae 10 9]⟩,⟨(some (10,false)),[ae 11 1,ae 12 0,aQ 13 12,aR 14 .gtr 11 13]⟩,⟨none,[bI 15 10 14]⟩]) <|
  .cond (.tmp 15) (.seq (aw [((some 4),.op (.aX (.val (.val (.complex .f64 0 0)))))]) <|
  .ret) (.skip)) <|
  .seq (aw [aH 5 1,aH 6 1]) <|
  .seq (.seq (aw [aH 7 0]) <|
  .block 0 (.loop yi)) <|
  .seq (aw [ae 30 5,ae 31 6,aM 32 219 [30,31],ae 4 32]) <|
  .ret,
  [.tmp 4],33⟩
theorem wT:bL Tryz.prog 177 []=some rG:=by kernel_rfl
def q5:DF:=⟨.seq (aw [((some 4),.op (.aX (.val (.val (.complex .f64 0 0)))))]) <|
  .seq (.seq (.region [] [⟨none,[ae 5 0,ay 6 .lss 5 1,ae 7 6]⟩,⟨(some (7,false)),[ae 8 0,ay 9 .gtr 8 1073741824]⟩,⟨none,[bI 10 7 9,ae 11 10]⟩,⟨(some (11,false)),[ae 12 1,ay 13 .lss 12 1]⟩,⟨none,[bI 14 11 13,ae 15 14]⟩,⟨(some (15,false)),[ae 16 1,ay 17 .gtr 16 1073741824]⟩,⟨none,[bI 18 15 17]⟩]) <|
  .cond (.tmp 18) (.seq (aw [((some 4),.op (.aX (.val (.val (.complex .f64 0 0)))))]) <|
  .ret) (.skip)) <|
  .seq (aw [ae 19 0,((some 20),.op (.old (.convert 3 311 (.tmp 19)) 311)),ae 21 1,((some 22),.op (.old (.convert 3 311 (.tmp 21)) 311)),((some 23),.op (.old (.call { callee:=.builtin .complex,args:=#[(.tmp 20),(.tmp 22)],argTypes:=#[311,311] }) 70)),ae 4 23]) <|
  .ret,
  [.tmp 4],24⟩
theorem wX:bL Tryz.prog 219 []=some q5:=by kernel_rfl
def wN:DC :=
  .seq (.seq (.region [] [⟨none,[ae 27 9,ae 28 0,aQ 29 28,aR 30 .lss 27 29,ae 31 30]⟩,⟨(some (31,true)),[ae 32 0,ae 33 9,aN 34 1 32 33,an 35 34,aM 36 193 [35]]⟩,⟨none,[bM 37 31 36]⟩]) <|
  .cond (.tmp 37) (.skip) (.exit 1)) <|
  .block 2 (aw [ae 38 9,ay 39 .add 38 1,ae 9 39])
def wM:DC :=
  .seq (.seq (aw [ae 58 10,ay 59 .leq 58 4]) <|
  .cond (.tmp 59) (.skip) (.exit 3)) <|
  .seq (.block 4 (.seq (.region [] [⟨none,[ae 62 1,ae 63 10,aR 64 .add 62 63,ae 65 0,aQ 66 65,aR 67 .leq 64 66,ae 68 67]⟩,⟨(some (68,true)),[ae 69 0,ae 70 1,ae 71 1,ae 72 10,aR 73 .add 71 72,((some 74),.op (.slice 1 (.tmp 69) (some (.tmp 70)) (some (.tmp 73)))),((some 75),.op (.old (.convert 73 9 (.tmp 74)) 9)),aM 76 191 [75]]⟩,⟨none,[bM 77 68 76]⟩]) <|
  .cond (.tmp 77) (.seq (.region [(6,8)] [⟨none,[ae 78 0,ae 79 1,ae 80 1,ae 81 10,aR 82 .add 80 81,((some 83),.op (.slice 1 (.tmp 78) (some (.tmp 79)) (some (.tmp 82)))),((some 84),.op (.old (.convert 73 9 (.tmp 83)) 9)),aq 85 0 7,(none,.op (.store 1 (.tmp 85) (.val (.val (.int .i64 2))))),aq 86 1 7,(none,.op (.store 1 (.tmp 86) (.tmp 84)))]⟩]) <|
  .seq (aw [aS 87 3 7,ae 88 1,ae 89 10,aR 90 .add 88 89,(none,.op (.store 3 (.tmp 4) (.tmp 87))),ae 5 90,aH 6 0]) <|
  .ret) (.skip))) <|
  aw [ae 60 10,ay 61 .add 60 1,ae 10 61]
def wP:DC :=
  .seq (.seq (.region [] [⟨none,[ae 108 9,ae 109 0,aQ 110 109,aR 111 .lss 108 110,ae 112 111]⟩,⟨(some (112,true)),[ae 113 0,ae 114 9,aN 115 1 113 114,an 116 115,((some 117),.op (.arith .geq (.tmp 116) (.val (.val (.int .u8 97)))))]⟩,⟨none,[bM 118 112 117,ae 119 118]⟩,⟨(some (119,true)),[ae 120 0,ae 121 9,aN 122 1 120 121,an 123 122,((some 124),.op (.arith .leq (.tmp 123) (.val (.val (.int .u8 122)))))]⟩,⟨none,[bM 125 119 124]⟩]) <|
  .cond (.tmp 125) (.skip) (.exit 5)) <|
  .block 6 (aw [ae 126 9,ay 127 .add 126 1,ae 9 127])
def qt:DF:=⟨.seq (.region [] [⟨none,[((some 4),.op (.alloc [(.val (.int .i64 0)),(.val (.string ⟨#[]⟩)),(.val (.complex .f64 0 0))])),aH 5 0,aH 6 0]⟩]) <|
  .seq (.region [] [⟨none,[ae 11 0,ae 12 1,aM 13 177 [11,12],((some 14),.op (.build [(.val (.int .i64 0)),(.val (.string ⟨#[]⟩)),(.val (.complex .f64 0 0))] [(2,1,(.tmp 13))])),((some 7),.op (.alloc [(.val (.int .i64 0)),(.val (.string ⟨#[]⟩)),(.val (.complex .f64 0 0))])),(none,.op (.store 3 (.tmp 7) (.tmp 14)))]⟩]) <|
  .seq (aw [ae 15 0,ae 16 1,aN 17 1 15 16,an 18 17,ae 8 18]) <|
  .seq (aw [ae 19 1,ay 20 .add 19 1,ae 9 20]) <|
  .seq (.block 0 (.seq (aw [ae 25 8,aM 26 192 [25],ae 24 26]) <|
  .cond (.tmp 24) (.seq (.block 1 (.loop wN)) <|
  .seq (.seq (aw [ae 40 9,ae 41 1,aR 42 .sub 40 41,ay 43 .gtr 42 20]) <|
  .cond (.tmp 43) (.seq (aw [aS 44 3 7,ae 45 9,(none,.op (.store 3 (.tmp 4) (.tmp 44))),ae 5 45,aH 6 5]) <|
  .ret) (.skip)) <|
  .seq (.region [(4,6)] [⟨none,[ae 46 0,ae 47 1,ae 48 9,((some 49),.op (.slice 1 (.tmp 46) (some (.tmp 47)) (some (.tmp 48)))),((some 50),.op (.old (.convert 73 9 (.tmp 49)) 9)),aq 51 0 7,(none,.op (.store 1 (.tmp 51) (.val (.val (.int .i64 1))))),aq 52 1 7,(none,.op (.store 1 (.tmp 52) (.tmp 50)))]⟩]) <|
  .seq (aw [aS 53 3 7,ae 54 9,(none,.op (.store 3 (.tmp 4) (.tmp 53))),ae 5 54,aH 6 0]) <|
  .ret) (.seq (aw [ae 56 8,((some 57),.op (.arith .eql (.tmp 56) (.val (.val (.int .u8 39))))),ae 55 57]) <|
  .cond (.tmp 55) (.seq (.seq (aw [aH 10 3]) <|
  .block 3 (.loop wM)) <|
  .seq (.region [(0,5)] [⟨none,[aS 91 3 7,ae 92 9,ae 93 0,ae 94 1,((some 95),.op (.slice 1 (.tmp 93) (some (.tmp 94)) none)),aM 96 220 [95],(none,.op (.store 3 (.tmp 4) (.tmp 91))),ae 5 92,ae 6 96]⟩]) <|
  .ret) (.seq (.region [] [⟨none,[ae 98 0,ae 99 1,cJ 100 215 [(.tmp 98),(.tmp 99),(.val (.val (.string ⟨#[37,37]⟩)))],ae 97 100]⟩]) <|
  .cond (.tmp 97) (.seq (aw [aq 101 0 7,(none,.op (.store 1 (.tmp 101) (.val (.val (.int .i64 9)))))]) <|
  .seq (aw [aS 102 3 7,ae 103 1,ay 104 .add 103 2,(none,.op (.store 3 (.tmp 4) (.tmp 102))),ae 5 104,aH 6 0]) <|
  .ret) (.seq (aw [ae 106 8,((some 107),.op (.arith .eql (.tmp 106) (.val (.val (.int .u8 37))))),ae 105 107]) <|
  .cond (.tmp 105) (.seq (.block 5 (.loop wP)) <|
  aw [ae 128 0,ae 129 1,ay 130 .add 129 1,ae 131 9,((some 132),.op (.slice 1 (.tmp 128) (some (.tmp 130)) (some (.tmp 131)))),((some 133),.op (.old (.convert 73 9 (.tmp 132)) 9)),aM 134 221 [133],aq 135 0 7,(none,.op (.store 1 (.tmp 135) (.tmp 134)))]) (aw [ae 21 8,aM 22 222 [21],aq 23 0 7,(none,.op (.store 1 (.tmp 23) (.tmp 22)))])))))) <|
  .seq (.seq (aw [aq 136 0 7,an 137 136,ay 138 .eql 137 0]) <|
  .cond (.tmp 138) (.seq (aw [aS 139 3 7,ae 140 9,(none,.op (.store 3 (.tmp 4) (.tmp 139))),ae 5 140,aH 6 3]) <|
  .ret) (.skip)) <|
  .seq (aw [aS 141 3 7,ae 142 9,(none,.op (.store 3 (.tmp 4) (.tmp 141))),ae 5 142,aH 6 0]) <|
  .ret,
  [.cell 4 (some 3),.tmp 5,.tmp 6],143⟩
theorem vh:bL Tryz.prog 178 []=some qt:=by kernel_rfl
def nN:DF:=⟨.seq (aw [bg 2 false]) <|
  .seq (.region [] [⟨none,[ae 3 0,aM 4 192 [3],ae 5 4]⟩,⟨(some (5,false)),[ae 6 0,((some 7),.op (.arith .geq (.tmp 6) (.val (.val (.int .u8 48))))),ae 8 7]⟩,⟨(some (8,true)),[ae 9 0,((some 10),.op (.arith .leq (.tmp 9) (.val (.val (.int .u8 57)))))]⟩,⟨(some (5,false)),[bM 11 8 10]⟩,⟨none,[bI 12 5 11,ae 13 12]⟩,⟨(some (13,false)),[ae 14 0,((some 15),.op (.arith .eql (.tmp 14) (.val (.val (.int .u8 46)))))]⟩,⟨none,[bI 16 13 15,ae 2 16]⟩]) <|
  .ret,
  [.tmp 2],17⟩
theorem tv:bL Tryz.prog 193 []=some nN:=by kernel_rfl
def nF:DF:=⟨.seq (aw [bg 2 false]) <|
  .seq (.region [] [⟨none,[ae 3 0,((some 4),.op (.arith .geq (.tmp 3) (.val (.val (.int .u8 97))))),ae 5 4]⟩,⟨(some (5,true)),[ae 6 0,((some 7),.op (.arith .leq (.tmp 6) (.val (.val (.int .u8 122)))))]⟩,⟨none,[bM 8 5 7,ae 9 8]⟩,⟨(some (9,false)),[ae 10 0,((some 11),.op (.arith .geq (.tmp 10) (.val (.val (.int .u8 65))))),ae 12 11]⟩,⟨(some (12,true)),[ae 13 0,((some 14),.op (.arith .leq (.tmp 13) (.val (.val (.int .u8 90)))))]⟩,⟨(some (9,false)),[bM 15 12 14]⟩,⟨none,[bI 16 9 15,ae 17 16]⟩,⟨(some (17,false)),[ae 18 0,((some 19),.op (.arith .eql (.tmp 18) (.val (.val (.int .u8 95)))))]⟩,⟨none,[bI 20 17 19,ae 2 20]⟩]) <|
  .ret,
  [.tmp 2],21⟩
theorem sZ:bL Tryz.prog 192 []=some nF:=by kernel_rfl
def lN:DF:=⟨.seq (aw [bg 2 false]) <|
  .seq (.seq (aw [ae 3 0,((some 4),.op (.gS (.tmp 3))),ay 5 .eql 4 3]) <|
  .cond (.tmp 5) (.seq (.region [] [⟨none,[ae 6 0,((some 7),.op (.dq (.tmp 6) (.val (.val (.int .i64 0))))),((some 8),.op (.arith .eql (.tmp 7) (.val (.val (.int .u8 39))))),ae 9 8]⟩,⟨(some (9,true)),[ae 10 0,((some 11),.op (.dq (.tmp 10) (.val (.val (.int .i64 2))))),((some 12),.op (.arith .eql (.tmp 11) (.val (.val (.int .u8 39)))))]⟩,⟨none,[bM 13 9 12,ae 14 13]⟩,⟨(some (14,true)),[ae 15 0,((some 16),.op (.dq (.tmp 15) (.val (.val (.int .i64 1))))),((some 17),.op (.arith .geq (.tmp 16) (.val (.val (.int .u8 32)))))]⟩,⟨none,[bM 18 14 17,ae 19 18]⟩,⟨(some (19,true)),[ae 20 0,((some 21),.op (.dq (.tmp 20) (.val (.val (.int .i64 1))))),((some 22),.op (.arith .leq (.tmp 21) (.val (.val (.int .u8 126)))))]⟩,⟨none,[bM 23 19 22,ae 24 23]⟩,⟨(some (24,true)),[ae 25 0,((some 26),.op (.dq (.tmp 25) (.val (.val (.int .i64 1))))),((some 27),.op (.arith .neq (.tmp 26) (.val (.val (.int .u8 39)))))]⟩,⟨none,[bM 28 24 27,ae 29 28]⟩,⟨(some (29,true)),[ae 30 0,((some 31),.op (.dq (.tmp 30) (.val (.val (.int .i64 1))))),((some 32),.op (.arith .neq (.tmp 31) (.val (.val (.int .u8 92)))))]⟩,⟨none,[bM 33 29 32,ae 2 33]⟩]) <|
  .ret) (.skip)) <|
  .seq (.region [] [⟨none,[ae 34 0,((some 35),.op (.gS (.tmp 34))),ay 36 .eql 35 4,ae 37 36]⟩,⟨(some (37,true)),[ae 38 0,((some 39),.op (.dq (.tmp 38) (.val (.val (.int .i64 0))))),((some 40),.op (.arith .eql (.tmp 39) (.val (.val (.int .u8 39)))))]⟩,⟨none,[bM 41 37 40,ae 42 41]⟩,⟨(some (42,true)),[ae 43 0,((some 44),.op (.dq (.tmp 43) (.val (.val (.int .i64 3))))),((some 45),.op (.arith .eql (.tmp 44) (.val (.val (.int .u8 39)))))]⟩,⟨none,[bM 46 42 45,ae 47 46]⟩,⟨(some (47,true)),[ae 48 0,((some 49),.op (.dq (.tmp 48) (.val (.val (.int .i64 1))))),((some 50),.op (.arith .eql (.tmp 49) (.val (.val (.int .u8 92)))))]⟩,⟨none,[bM 51 47 50,ae 52 51]⟩,⟨(some (52,true)),[ae 53 0,((some 54),.op (.dq (.tmp 53) (.val (.val (.int .i64 2))))),((some 55),.op (.arith .eql (.tmp 54) (.val (.val (.int .u8 110))))),ae 56 55]⟩,⟨(some (56,false)),[ae 57 0,((some 58),.op (.dq (.tmp 57) (.val (.val (.int .i64 2))))),((some 59),.op (.arith .eql (.tmp 58) (.val (.val (.int .u8 116)))))]⟩,⟨(some (52,true)),[bI 60 56 59,ae 61 60]⟩,⟨(some (61,false)),[ae 62 0,((some 63),.op (.dq (.tmp 62) (.val (.val (.int .i64 2))))),((some 64),.op (.arith .eql (.tmp 63) (.val (.val (.int .u8 92)))))]⟩,⟨(some (52,true)),[bI 65 61 64,ae 66 65]⟩,⟨(some (66,false)),[ae 67 0,((some 68),.op (.dq (.tmp 67) (.val (.val (.int .i64 2))))),((some 69),.op (.arith .eql (.tmp 68) (.val (.val (.int .u8 39)))))]⟩,⟨(some (52,true)),[bI 70 66 69]⟩,⟨none,[bM 71 52 70,ae 2 71]⟩]) <|
  .ret,
  [.tmp 2],72⟩
theorem rD:bL Tryz.prog 191 []=some lN:=by kernel_rfl
def rO:DC :=
  .seq (.seq (aw [ae 6 4,ae 7 3,aQ 8 7,aR 9 .lss 6 8]) <|
  .cond (.tmp 9) (.skip) (.exit 0)) <|
  .seq (.block 1 (.seq (.region [(5,9)] [⟨none,[ae 12 0,aQ 13 12,ay 14 .lss 13 4,ae 15 14]⟩,⟨(some (15,true)),[ae 16 0,((some 17),.op (.old (.convert 73 9 (.tmp 16)) 9)),ae 18 3,ae 19 4,aN 20 1 18 19,an 21 20,((some 22),.op (.iV .add (.tmp 17) (.tmp 21))),aM 23 191 [22]]⟩,⟨none,[bM 24 15 23]⟩]) <|
  .cond (.tmp 24) (.seq (aw [aH 2 4]) <|
  .ret) (.skip))) <|
  aw [ae 10 4,ay 11 .add 10 1,ae 4 11]
def lO:DF:=⟨.seq (aw [aH 2 0]) <|
  .seq (.region [] [⟨none,[((some 5),.op (.bB 5 1 [(.val (.string ⟨#[]⟩))] [(0,(.val (.val (.string ⟨#[120,39]⟩)))),(1,(.val (.val (.string ⟨#[39]⟩)))),(2,(.val (.val (.string ⟨#[92,110,39]⟩)))),(3,(.val (.val (.string ⟨#[110,39]⟩)))),(4,(.val (.val (.string ⟨#[92,39,39]⟩))))])),ae 3 5]⟩]) <|
  .seq (.seq (aw [aH 4 0]) <|
  .block 0 (.loop rO)) <|
  .seq (aw [aH 2 3]) <|
  .ret,
  [.tmp 2],25⟩
theorem rz:bL Tryz.prog 220 []=some lO:=by kernel_rfl
def lA:DF:=⟨.seq (aw [aH 2 0]) <|
  .seq (.seq (aw [ae 3 0]) <|
  .block 0 (.seq (.region [] [⟨none,[((some 5),.op (.iV .eql (.tmp 3) (.val (.val (.string ⟨#[116,111,107,101,110]⟩))))),ae 4 5]⟩]) <|
  .cond (.tmp 4) (.seq (aw [aH 2 3]) <|
  .ret) (.seq (.region [] [⟨none,[((some 7),.op (.iV .eql (.tmp 3) (.val (.val (.string ⟨#[108,101,102,116]⟩))))),ae 6 7]⟩]) <|
  .cond (.tmp 6) (.seq (aw [aH 2 4]) <|
  .ret) (.seq (.region [] [⟨none,[((some 9),.op (.iV .eql (.tmp 3) (.val (.val (.string ⟨#[114,105,103,104,116]⟩))))),ae 8 9]⟩]) <|
  .cond (.tmp 8) (.seq (aw [aH 2 5]) <|
  .ret) (.seq (.region [] [⟨none,[((some 11),.op (.iV .eql (.tmp 3) (.val (.val (.string ⟨#[110,111,110,97,115,115,111,99]⟩))))),ae 10 11]⟩]) <|
  .cond (.tmp 10) (.seq (aw [aH 2 6]) <|
  .ret) (.seq (.region [] [⟨none,[((some 13),.op (.iV .eql (.tmp 3) (.val (.val (.string ⟨#[115,116,97,114,116]⟩))))),ae 12 13]⟩]) <|
  .cond (.tmp 12) (.seq (aw [aH 2 7]) <|
  .ret) (.seq (.region [] [⟨none,[((some 15),.op (.iV .eql (.tmp 3) (.val (.val (.string ⟨#[112,114,101,99]⟩))))),ae 14 15]⟩]) <|
  .cond (.tmp 14) (.seq (aw [aH 2 8]) <|
  .ret) (.skip)))))))) <|
  .seq (aw [aH 2 0]) <|
  .ret,
  [.tmp 2],16⟩
theorem qZ:bL Tryz.prog 221 []=some lA:=by kernel_rfl
def pr:DF:=⟨.seq (aw [aH 2 0]) <|
  .seq (.seq (aw [ae 3 0]) <|
  .block 0 (.seq (aw [((some 5),.op (.arith .eql (.tmp 3) (.val (.val (.int .u8 58))))),ae 4 5]) <|
  .cond (.tmp 4) (.seq (aw [aH 2 10]) <|
  .ret) (.seq (aw [((some 7),.op (.arith .eql (.tmp 3) (.val (.val (.int .u8 124))))),ae 6 7]) <|
  .cond (.tmp 6) (.seq (aw [aH 2 11]) <|
  .ret) (.seq (aw [((some 9),.op (.arith .eql (.tmp 3) (.val (.val (.int .u8 59))))),ae 8 9]) <|
  .cond (.tmp 8) (.seq (aw [aH 2 12]) <|
  .ret) (.skip))))) <|
  .seq (aw [aH 2 0]) <|
  .ret,
  [.tmp 2],10⟩
theorem tQ:bL Tryz.prog 222 []=some pr:=by kernel_rfl
def xG:DC :=
  .seq (.seq (.region [] [⟨none,[ae 21 7,bK 22 21,aq 23 3 22,an 24 23,ay 25 .eql 24 0,ae 26 25]⟩,⟨(some (26,true)),[ae 27 7,bK 28 27,aq 29 0 28,an 30 29,aQ 31 30,ay 32 .gtr 31 0]⟩,⟨none,[bM 33 26 32,ae 34 33]⟩,⟨(some (34,true)),[ae 35 7,aM 36 182 [35],ay 37 .neq 36 9]⟩,⟨none,[bM 38 34 37]⟩]) <|
  .cond (.tmp 38) (.skip) (.exit 0)) <|
  .block 1 (.region [(1,3)] [⟨none,[aq 39 1 8,an 40 39,ae 41 7,aM 42 181 [41],((some 43),.op (.app 5 88 (.tmp 40) (.tmp 42))),aq 44 1 8,(none,.op (.store 1 (.tmp 44) (.tmp 43)))]⟩])
def q4:DF:=⟨.seq (aw [((some 4),.op (.alloc [(.emp 1),(.emp 1)])),((some 5),.op (.aX (.val (.val (.complex .f64 0 0))))),aH 6 0]) <|
  .seq (aw [ae 9 0,ae 10 1,((some 11),.op (.build [(.emp 1),(.val (.complex .f64 0 0)),(.val (.complex .f64 0 0)),(.val (.int .i64 0))] [(0,1,(.tmp 9)),(1,1,(.tmp 10))])),((some 12),.op (.box (.tmp 11))),ae 7 12]) <|
  .seq (aw [ae 13 7,aM 14 179 [13],((some 15),.op (.build [(.emp 1),(.emp 1)] [(0,1,(.tmp 14))])),((some 8),.op (.alloc [(.emp 1),(.emp 1)])),(none,.op (.store 2 (.tmp 8) (.tmp 15)))]) <|
  .seq (aw [ae 16 7,cJ 17 180 [(.tmp 16),(.val (.val (.int .i64 9))),(.val (.val (.int .i64 9)))]]) <|
  .seq (aw [ae 18 7,aM 19 181 [18],aq 20 1 8,(none,.op (.store 1 (.tmp 20) (.tmp 19)))]) <|
  .seq (.block 0 (.loop xG)) <|
  .seq (.seq (.region [] [⟨none,[ae 45 7,bK 46 45,aq 47 3 46,an 48 47,ay 49 .eql 48 0,ae 50 49]⟩,⟨(some (50,true)),[ae 51 7,bK 52 51,aq 53 0 52,an 54 53,aQ 55 54,ay 56 .gtr 55 0]⟩,⟨none,[bM 57 50 56]⟩]) <|
  .cond (.tmp 57) (aw [ae 58 7,cJ 59 180 [(.tmp 58),(.val (.val (.int .i64 9))),(.val (.val (.int .i64 9)))]]) (.skip)) <|
  .seq (.seq (aw [ae 60 7,bK 61 60,aq 62 0 61,an 63 62,aQ 64 63,ay 65 .gtr 64 0]) <|
  .cond (.tmp 65) (aw [ae 66 7,aM 67 183 [66]]) (.skip)) <|
  .seq (.seq (aw [ae 68 7,bK 69 68,aq 70 3 69,an 71 70,ay 72 .neq 71 0]) <|
  .cond (.tmp 72) (.seq (.region [(4,9),(8,9)] [⟨none,[((some 73),.op (.build [(.emp 1),(.emp 1)] [])),ae 74 7,bK 75 74,aq 76 2 75,an 77 76,ae 78 7,bK 79 78,aq 80 3 79,an 81 80,(none,.op (.store 2 (.tmp 4) (.tmp 73))),ae 5 77,ae 6 81]⟩]) <|
  .ret) (.skip)) <|
  .seq (aw [aS 82 2 8,(none,.op (.store 2 (.tmp 4) (.tmp 82))),((some 5),.op (.aX (.val (.val (.complex .f64 0 0))))),aH 6 0]) <|
  .ret,
  [.cell 4 (some 2),.tmp 5,.tmp 6],83⟩
theorem wO:bL Tryz.prog 121 []=some q4:=by kernel_rfl
def jn:DF:=⟨.seq (aw [aH 2 0]) <|
  .seq (.seq (.region [] [⟨none,[ae 3 0,bK 4 3,aq 5 3 4,an 6 5,ay 7 .neq 6 0,ae 8 7]⟩,⟨(some (8,false)),[ae 9 0,bK 10 9,aq 11 0 10,an 12 11,aQ 13 12,ay 14 .eql 13 0]⟩,⟨none,[bI 15 8 14]⟩]) <|
  .cond (.tmp 15) (.seq (aw [aH 2 0]) <|
  .ret) (.skip)) <|
  .seq (aw [ae 16 0,bK 17 16,aq 18 0 17,an 19 18,((some 20),.op (.idx 3 (.tmp 19) (.val (.val (.int .i64 0))))),aq 21 0 20,an 22 21,ae 2 22]) <|
  .ret,
  [.tmp 2],23⟩
theorem nU:bL Tryz.prog 182 []=some jn:=by kernel_rfl
def nS:DC :=
  .seq (.seq (aw [ae 10 0,bK 11 10,aq 12 3 11,an 13 12,ay 14 .eql 13 0]) <|
  .cond (.tmp 14) (.skip) (.exit 0)) <|
  .block 1 (.seq (.region [(0,2),(2,4)] [⟨none,[aS 15 2 4,ae 16 0,aM 17 223 [16],((some 18),.op (.build [(.val (.string ⟨#[]⟩)),(.val (.complex .f64 0 0)),(.emp 1),(.val (.string ⟨#[]⟩)),(.val (.complex .f64 0 0))] [(0,2,(.tmp 15)),(2,1,(.tmp 17))])),((some 5),.op (.alloc [(.val (.string ⟨#[]⟩)),(.val (.complex .f64 0 0)),(.emp 1),(.val (.string ⟨#[]⟩)),(.val (.complex .f64 0 0))])),(none,.op (.store 5 (.tmp 5) (.tmp 18)))]⟩]) <|
  .seq (.seq (aw [ae 19 0,cJ 20 224 [(.tmp 19),(.val (.val (.int .i64 8))),(.val (.val (.int .i64 8)))]]) <|
  .cond (.tmp 20) (.seq (aw [ae 21 0,cJ 22 180 [(.tmp 21),(.val (.val (.int .i64 8))),(.val (.val (.int .i64 8)))]]) <|
  aw [ae 23 0,cJ 24 180 [(.tmp 23),(.val (.val (.int .i64 1))),(.val (.val (.int .i64 2)))],aq 25 3 5,(none,.op (.store 2 (.tmp 25) (.tmp 24)))]) (.skip)) <|
  .seq (.region [] [⟨none,[ae 26 3,aS 27 5 5,((some 28),.op (.bB 1 5 [(.val (.string ⟨#[]⟩)),(.val (.complex .f64 0 0)),(.emp 1),(.val (.string ⟨#[]⟩)),(.val (.complex .f64 0 0))] [(0,(.tmp 27))])),((some 29),.op (.app 5 88 (.tmp 26) (.tmp 28))),ae 3 29]⟩]) <|
  .seq (.seq (aw [ae 30 0,cJ 31 224 [(.tmp 30),(.val (.val (.int .i64 11))),(.val (.val (.int .i64 11)))],cm 32 31]) <|
  .cond (.tmp 32) (.seq (aw [ae 33 0,cJ 34 180 [(.tmp 33),(.val (.val (.int .i64 12))),(.val (.val (.int .i64 12)))]]) <|
  .seq (aw [ae 35 3,ae 2 35]) <|
  .ret) (.skip)) <|
  aw [ae 36 0,cJ 37 180 [(.tmp 36),(.val (.val (.int .i64 11))),(.val (.val (.int .i64 11)))]])
def iQ:DF:=⟨.seq (aw [((some 2),.op (.aX (.val (.emp 1))))]) <|
  .seq (aw [((some 3),.op (.aX (.val (.emp 1))))]) <|
  .seq (.region [] [⟨none,[ae 6 0,cJ 7 180 [(.tmp 6),(.val (.val (.int .i64 1))),(.val (.val (.int .i64 1)))],((some 4),.op (.alloc [(.val (.string ⟨#[]⟩)),(.val (.complex .f64 0 0))])),(none,.op (.store 2 (.tmp 4) (.tmp 7)))]⟩]) <|
  .seq (aw [ae 8 0,cJ 9 180 [(.tmp 8),(.val (.val (.int .i64 10))),(.val (.val (.int .i64 10)))]]) <|
  .seq (.block 0 (.loop nS)) <|
  .seq (aw [ae 38 3,ae 2 38]) <|
  .ret,
  [.tmp 2],39⟩
theorem nf:bL Tryz.prog 181 []=some iQ:=by kernel_rfl
def pB:DC :=
  .seq (.seq (aw [ae 4 0,cJ 5 224 [(.tmp 4),(.val (.val (.int .i64 1))),(.val (.val (.int .i64 2)))]]) <|
  .cond (.tmp 5) (.skip) (.exit 0)) <|
  .block 1 (.region [] [⟨none,[ae 6 3,ae 7 0,cJ 8 180 [(.tmp 7),(.val (.val (.int .i64 1))),(.val (.val (.int .i64 2)))],((some 9),.op (.bB 1 2 [(.val (.string ⟨#[]⟩)),(.val (.complex .f64 0 0))] [(0,(.tmp 8))])),((some 10),.op (.app 2 32 (.tmp 6) (.tmp 9))),ae 3 10]⟩])
def jx:DF:=⟨.seq (aw [((some 2),.op (.aX (.val (.emp 1))))]) <|
  .seq (aw [((some 3),.op (.aX (.val (.emp 1))))]) <|
  .seq (.block 0 (.loop pB)) <|
  .seq (aw [ae 11 3,ae 2 11]) <|
  .ret,
  [.tmp 2],12⟩
theorem oh:bL Tryz.prog 223 []=some jx:=by kernel_rfl
def kF:DF:=⟨.seq (aw [bg 6 false]) <|
  .seq (.region [] [⟨none,[ae 7 0,bK 8 7,aq 9 0 8,an 10 9,aQ 11 10,ay 12 .gtr 11 0,ae 13 12]⟩,⟨(some (13,true)),[ae 14 0,aM 15 182 [14],ae 16 1,aR 17 .eql 15 16,ae 18 17]⟩,⟨(some (18,false)),[ae 19 0,aM 20 182 [19],ae 21 2,aR 22 .eql 20 21]⟩,⟨(some (13,true)),[bI 23 18 22]⟩,⟨none,[bM 24 13 23,ae 6 24]⟩]) <|
  .ret,
  [.tmp 6],25⟩
theorem pY:bL Tryz.prog 224 []=some kF:=by kernel_rfl
def jy:DF:=⟨.seq (.region [] [⟨none,[((some 6),.op (.alloc [(.val (.string ⟨#[]⟩)),(.val (.complex .f64 0 0))]))]⟩]) <|
  .seq (.seq (.region [] [⟨none,[ae 8 0,bK 9 8,aq 10 3 9,an 11 10,ay 12 .neq 11 0,ae 13 12]⟩,⟨(some (13,false)),[ae 14 0,ae 15 1,ae 16 2,aM 17 224 [14,15,16],cm 18 17]⟩,⟨none,[bI 19 13 18]⟩]) <|
  .cond (.tmp 19) (.seq (aw [ae 20 0,aM 21 183 [20]]) <|
  .seq (.region [] [⟨none,[((some 22),.op (.build [(.val (.string ⟨#[]⟩)),(.val (.complex .f64 0 0))] [])),(none,.op (.store 2 (.tmp 6) (.tmp 22)))]⟩]) <|
  .ret) (.skip)) <|
  .seq (.region [] [⟨none,[ae 23 0,bK 24 23,aq 25 0 24,an 26 25,((some 27),.op (.idx 3 (.tmp 26) (.val (.val (.int .i64 0))))),aS 28 3 27,((some 7),.op (.alloc [(.val (.int .i64 0)),(.val (.string ⟨#[]⟩)),(.val (.complex .f64 0 0))])),(none,.op (.store 3 (.tmp 7) (.tmp 28)))]⟩]) <|
  .seq (aw [ae 29 0,ae 30 0,bK 31 30,aq 32 0 31,an 33 32,((some 34),.op (.slice 3 (.tmp 33) (some (.val (.val (.int .i64 1)))) none)),bK 35 29,aq 36 0 35,(none,.op (.store 1 (.tmp 36) (.tmp 34)))]) <|
  .seq (.region [] [⟨none,[aq 37 1 7,an 38 37,aq 39 2 7,an 40 39,((some 41),.op (.build [(.val (.string ⟨#[]⟩)),(.val (.complex .f64 0 0))] [(0,1,(.tmp 38)),(1,1,(.tmp 40))])),(none,.op (.store 2 (.tmp 6) (.tmp 41)))]⟩]) <|
  .ret,
  [.cell 6 (some 2)],42⟩
theorem ou:bL Tryz.prog 180 []=some jy:=by kernel_rfl
def jr:DF:=⟨.seq (.seq (aw [ae 2 0,bK 3 2,aq 4 3 3,an 5 4,ay 6 .neq 5 0]) <|
  .cond (.tmp 6) (.ret) (.skip)) <|
  .seq (aw [ae 7 0,ae 8 0,ae 9 0,bK 10 9,aq 11 1 10,an 12 11,bK 13 7,aq 14 2 13,(none,.op (.store 1 (.tmp 14) (.tmp 12))),bK 15 8,aq 16 3 15,(none,.op (.store 1 (.tmp 16) (.val (.val (.int .i64 4)))))]) <|
  .seq (aw [ae 17 0,bK 18 17,aq 19 0 18,an 20 19,aQ 21 20,ay 22 .gtr 21 0]) <|
  .cond (.tmp 22) (aw [ae 23 0,ae 24 0,ae 25 0,bK 26 25,aq 27 0 26,an 28 27,((some 29),.op (.idx 3 (.tmp 28) (.val (.val (.int .i64 0))))),aq 30 2 29,an 31 30,bK 32 23,aq 33 2 32,(none,.op (.store 1 (.tmp 33) (.tmp 31))),bK 34 24,aq 35 3 34,(none,.op (.store 1 (.tmp 35) (.val (.val (.int .i64 3)))))]) (.skip),
  [],36⟩
theorem oc:bL Tryz.prog 183 []=some jr:=by kernel_rfl
def oB:DC :=
  .seq (.seq (.region [] [⟨none,[ae 6 0,bK 7 6,aq 8 3 7,an 9 8,ay 10 .eql 9 0,ae 11 10]⟩,⟨(some (11,true)),[ae 12 0,bK 13 12,aq 14 0 13,an 15 14,aQ 16 15,ay 17 .gtr 16 0]⟩,⟨none,[bM 18 11 17,ae 19 18]⟩,⟨(some (19,true)),[ae 20 0,aM 21 182 [20],ay 22 .neq 21 9]⟩,⟨none,[bM 23 19 22]⟩]) <|
  .cond (.tmp 23) (.skip) (.exit 0)) <|
  .block 1 (.seq (aw [ae 24 0,aM 25 182 [24],ae 4 25]) <|
  .seq (.seq (aw [ae 26 4,ay 27 .eql 26 7]) <|
  .cond (.tmp 27) (.seq (aw [ae 28 0,ae 29 4,ae 30 4,aM 31 180 [28,29,30]]) <|
  .seq (.region [] [⟨none,[ae 32 3,ae 33 4,ae 34 0,cJ 35 180 [(.tmp 34),(.val (.val (.int .i64 1))),(.val (.val (.int .i64 1)))],((some 36),.op (.bB 1 2 [(.val (.string ⟨#[]⟩)),(.val (.complex .f64 0 0))] [(0,(.tmp 35))])),((some 37),.op (.build [(.val (.int .i64 0)),(.emp 1)] [(0,1,(.tmp 33)),(1,1,(.tmp 36))])),((some 38),.op (.bB 1 2 [(.val (.int .i64 0)),(.emp 1)] [(0,(.tmp 37))])),((some 39),.op (.app 2 32 (.tmp 32) (.tmp 38))),ae 3 39]⟩]) <|
  .exit 1) (.skip)) <|
  .seq (.seq (.region [] [⟨none,[ae 40 4,ay 41 .neq 40 3,ae 42 41]⟩,⟨(some (42,true)),[ae 43 4,ay 44 .neq 43 4]⟩,⟨none,[bM 45 42 44,ae 46 45]⟩,⟨(some (46,true)),[ae 47 4,ay 48 .neq 47 5]⟩,⟨none,[bM 49 46 48,ae 50 49]⟩,⟨(some (50,true)),[ae 51 4,ay 52 .neq 51 6]⟩,⟨none,[bM 53 50 52]⟩]) <|
  .cond (.tmp 53) (.seq (aw [ae 54 0,aM 55 183 [54]]) <|
  .exit 1) (.skip)) <|
  .seq (aw [ae 56 0,ae 57 4,ae 58 4,aM 59 180 [56,57,58]]) <|
  .seq (.region [] [⟨none,[ae 60 0,cJ 61 180 [(.tmp 60),(.val (.val (.int .i64 1))),(.val (.val (.int .i64 2)))],((some 5),.op (.alloc [(.val (.string ⟨#[]⟩)),(.val (.complex .f64 0 0))])),(none,.op (.store 2 (.tmp 5) (.tmp 61)))]⟩]) <|
  .region [(2,5),(3,5)] [⟨none,[ae 62 3,ae 63 4,aS 64 2 5,((some 65),.op (.bB 1 2 [(.val (.string ⟨#[]⟩)),(.val (.complex .f64 0 0))] [(0,(.tmp 64))])),ae 66 0,aM 67 223 [66],((some 68),.op (.app 2 32 (.tmp 65) (.tmp 67))),((some 69),.op (.build [(.val (.int .i64 0)),(.emp 1)] [(0,1,(.tmp 63)),(1,1,(.tmp 68))])),((some 70),.op (.bB 1 2 [(.val (.int .i64 0)),(.emp 1)] [(0,(.tmp 69))])),((some 71),.op (.app 2 32 (.tmp 62) (.tmp 70))),ae 3 71]⟩])
def iZ:DF:=⟨.seq (aw [((some 2),.op (.aX (.val (.emp 1))))]) <|
  .seq (aw [((some 3),.op (.aX (.val (.emp 1))))]) <|
  .seq (.block 0 (.loop oB)) <|
  .seq (aw [ae 72 3,ae 2 72]) <|
  .ret,
  [.tmp 2],73⟩
theorem nh:bL Tryz.prog 179 []=some iZ:=by kernel_rfl
def tR:DC :=
  .seq (.seq (.region [] [⟨none,[ae 17 6,aq 18 1 1,an 19 18,aQ 20 19,aR 21 .lss 17 20,ae 22 21]⟩,⟨(some (22,true)),[ae 23 5,bK 24 23,aq 25 10 24,an 26 25,ay 27 .eql 26 0]⟩,⟨none,[bM 28 22 27]⟩]) <|
  .cond (.tmp 28) (.skip) (.exit 0)) <|
  .seq (.block 1 (aw [ae 31 5,aq 32 1 1,an 33 32,ae 34 6,aN 35 5 33 34,aS 36 5 35,aM 37 124 [31,36]])) <|
  aw [ae 29 6,ay 30 .add 29 1,ae 6 30]
def nI:DF:=⟨.seq (aw [cr 1 0,((some 2),.op (.alloc [(.emp 1),(.emp 1),(.emp 1),(.val (.int .i64 0))])),((some 3),.op (.aX (.val (.val (.complex .f64 0 0))))),aH 4 0]) <|
  .seq (.region [] [⟨none,[((some 7),.op (.build [(.emp 1),(.emp 1),(.emp 1),(.val (.int .i64 0)),(.emp 1),(.val (.string ⟨#[]⟩)),(.val (.complex .f64 0 0)),(.val (.bool false)),(.val (.int .i64 0)),(.val (.complex .f64 0 0)),(.val (.int .i64 0))] [])),((some 8),.op (.box (.tmp 7))),ae 5 8]⟩]) <|
  .seq (aw [ae 9 5,aq 10 0 1,an 11 10,aM 12 122 [9,11]]) <|
  .seq (aw [ae 13 5,aq 14 1 1,an 15 14,aM 16 123 [13,15]]) <|
  .seq (.seq (aw [aH 6 0]) <|
  .block 0 (.loop tR)) <|
  .seq (.seq (.region [] [⟨none,[ae 38 5,bK 39 38,aq 40 7 39,an 41 40,ae 42 41]⟩,⟨(some (42,true)),[ae 43 5,bK 44 43,aq 45 0 44,aS 46 4 45,ae 47 5,bK 48 47,aq 49 5 48,aq 50 0 49,an 51 50,aM 52 125 [46,51],ay 53 .lss 52 0]⟩,⟨none,[bM 54 42 53]⟩]) <|
  .cond (.tmp 54) (aw [ae 55 5,ae 56 5,bK 57 56,aq 58 5 57,aS 59 2 58,cJ 60 126 [(.tmp 55),(.tmp 59),(.val (.val (.int .i64 8)))]]) (.skip)) <|
  .seq (.seq (aw [aq 61 1 1,an 62 61,aQ 63 62,ay 64 .eql 63 0]) <|
  .cond (.tmp 64) (.region [] [⟨none,[ae 65 5,((some 66),.op (.build [(.val (.string ⟨#[]⟩)),(.val (.complex .f64 0 0))] [])),cJ 67 126 [(.tmp 65),(.tmp 66),(.val (.val (.int .i64 8)))]]⟩]) (.skip)) <|
  .seq (.seq (aw [ae 68 5,bK 69 68,aq 70 10 69,an 71 70,ay 72 .neq 71 0]) <|
  .cond (.tmp 72) (.seq (.region [(4,9),(8,9)] [⟨none,[((some 73),.op (.build [(.emp 1),(.emp 1),(.emp 1),(.val (.int .i64 0))] [])),ae 74 5,bK 75 74,aq 76 9 75,an 77 76,ae 78 5,bK 79 78,aq 80 10 79,an 81 80,(none,.op (.store 4 (.tmp 2) (.tmp 73))),ae 3 77,ae 4 81]⟩]) <|
  .ret) (.skip)) <|
  .seq (.seq (aw [ae 82 5,bK 83 82,aq 84 7 83,an 85 84]) <|
  .cond (.tmp 85) (aw [ae 86 5,ae 87 5,bK 88 87,aq 89 0 88,aS 90 4 89,ae 91 5,bK 92 91,aq 93 5 92,aq 94 0 93,an 95 94,aM 96 125 [90,95],bK 97 86,aq 98 0 97,aq 99 3 98,(none,.op (.store 1 (.tmp 99) (.tmp 96)))]) (.skip)) <|
  .seq (aw [ae 100 5,bK 101 100,aq 102 0 101,aS 103 4 102,(none,.op (.store 4 (.tmp 2) (.tmp 103))),((some 3),.op (.aX (.val (.val (.complex .f64 0 0))))),aH 4 0]) <|
  .ret,
  [.cell 2 (some 4),.tmp 3,.tmp 4],104⟩
theorem sW:bL Tryz.prog 71 [1]=some nI:=by kernel_rfl
def qH:DC :=
  .seq (.seq (.region [] [⟨none,[ae 28 5,aq 29 2 3,an 30 29,aQ 31 30,aR 32 .lss 28 31,ae 33 32]⟩,⟨(some (33,true)),[ae 34 0,bK 35 34,aq 36 10 35,an 37 36,ay 38 .eql 37 0]⟩,⟨none,[bM 39 33 38]⟩]) <|
  .cond (.tmp 39) (.skip) (.exit 0)) <|
  .seq (.block 1 (.seq (.region [] [⟨none,[aq 42 2 3,an 43 42,ae 44 5,aN 45 2 43 44,aS 46 2 45,((some 6),.op (.alloc [(.val (.string ⟨#[]⟩)),(.val (.complex .f64 0 0))])),(none,.op (.store 2 (.tmp 6) (.tmp 46)))]⟩]) <|
  .seq (.seq (aw [aq 47 0 6,an 48 47,aM 49 139 [48],cm 50 49]) <|
  .cond (.tmp 50) (.seq (aw [ae 51 0,aS 52 2 6,cJ 53 126 [(.tmp 51),(.tmp 52),(.val (.val (.int .i64 3)))]]) <|
  .ret) (.skip)) <|
  .seq (.seq (aw [ae 54 5,ay 55 .eql 54 6]) <|
  .cond (.tmp 55) (.seq (aw [ae 56 0,aS 57 2 6,cJ 58 126 [(.tmp 56),(.tmp 57),(.val (.val (.int .i64 5)))]]) <|
  .ret) (.skip)) <|
  .seq (aw [ae 59 0,aS 60 2 6,cJ 61 185 [(.tmp 59),(.tmp 60),(.val (.val (.bool true)))],ae 7 61]) <|
  .seq (aw [aq 62 1 4,an 63 62,ae 64 7,((some 65),.op (.bB 1 1 [(.val (.int .i64 0))] [(0,(.tmp 64))])),((some 66),.op (.app 1 8 (.tmp 63) (.tmp 65))),aq 67 1 4,(none,.op (.store 1 (.tmp 67) (.tmp 66)))]) <|
  .seq (aw [ae 68 7,ay 69 .geq 68 0]) <|
  .cond (.tmp 69) (aw [ae 70 7,aq 71 2 4,(none,.op (.store 1 (.tmp 71) (.tmp 70)))]) (.skip))) <|
  aw [ae 40 5,ay 41 .add 40 1,ae 5 41]
def kG:DF:=⟨.seq (aw [cr 3 1]) <|
  .seq (.region [(7,9)] [⟨none,[ae 8 0,bK 9 8,aq 10 0 9,aS 11 4 10,aq 12 0 3,aq 13 0 12,an 14 13,aM 15 125 [11,14],((some 16),.op (.build [(.val (.int .i64 0)),(.emp 1),(.val (.int .i64 0))] [(0,1,(.tmp 15)),(2,1,(.val (.val (.int .i64 (-1)))))])),((some 4),.op (.alloc [(.val (.int .i64 0)),(.emp 1),(.val (.int .i64 0))])),(none,.op (.store 3 (.tmp 4) (.tmp 16)))]⟩]) <|
  .seq (.seq (aw [ae 17 0,bK 18 17,aq 19 0 18,aq 20 2 19,an 21 20,aQ 22 21,ay 23 .eql 22 40]) <|
  .cond (.tmp 23) (aw [ae 24 0,aq 25 0 3,aS 26 2 25,cJ 27 126 [(.tmp 24),(.tmp 26),(.val (.val (.int .i64 5)))]]) (.skip)) <|
  .seq (.seq (aw [aH 5 0]) <|
  .block 0 (.loop qH)) <|
  .seq (.seq (.region [] [⟨none,[aq 72 3 3,aq 73 0 72,an 74 73,((some 75),.op (.iV .neq (.tmp 74) (.val (.val (.string ⟨#[]⟩))))),ae 76 75]⟩,⟨(some (76,true)),[ae 77 0,bK 78 77,aq 79 10 78,an 80 79,ay 81 .eql 80 0]⟩,⟨none,[bM 82 76 81]⟩]) <|
  .cond (.tmp 82) (.seq (.seq (aw [aq 83 3 3,aq 84 0 83,an 85 84,aM 86 139 [85],cm 87 86]) <|
  .cond (.tmp 87) (.seq (aw [ae 88 0,aq 89 3 3,aS 90 2 89,cJ 91 126 [(.tmp 88),(.tmp 90),(.val (.val (.int .i64 3)))]]) <|
  .ret) (.skip)) <|
  aw [ae 92 0,aq 93 3 3,aS 94 2 93,cJ 95 185 [(.tmp 92),(.tmp 94),(.val (.val (.bool false)))],aq 96 2 4,(none,.op (.store 1 (.tmp 96) (.tmp 95)))]) (.skip)) <|
  aw [ae 97 0,ae 98 0,bK 99 98,aq 100 0 99,aq 101 2 100,an 102 101,aS 103 3 4,((some 104),.op (.bB 1 3 [(.val (.int .i64 0)),(.emp 1),(.val (.int .i64 0))] [(0,(.tmp 103))])),((some 105),.op (.app 3 40 (.tmp 102) (.tmp 104))),bK 106 97,aq 107 0 106,aq 108 2 107,(none,.op (.store 1 (.tmp 108) (.tmp 105)))],
  [],109⟩
theorem p8:bL Tryz.prog 124 [3]=some kG:=by kernel_rfl
def nH:DF:=⟨.seq (aw [bg 2 false]) <|
  .seq (.region [] [⟨none,[ae 3 0,aM 4 142 [3],ae 5 4]⟩,⟨(some (5,false)),[ae 6 0,aM 7 191 [6]]⟩,⟨none,[bI 8 5 7,ae 2 8]⟩]) <|
  .ret,
  [.tmp 2],9⟩
theorem tf:bL Tryz.prog 139 []=some nH:=by kernel_rfl
def vi:DC :=
  .seq (.seq (aw [ae 18 3,ae 19 0,((some 20),.op (.gS (.tmp 19))),aR 21 .lss 18 20]) <|
  .cond (.tmp 21) (.skip) (.exit 0)) <|
  .seq (.block 1 (.seq (aw [ae 24 0,ae 25 3,((some 26),.op (.dq (.tmp 24) (.tmp 25))),aM 27 193 [26],cm 28 27]) <|
  .cond (.tmp 28) (.seq (aw [bg 2 false]) <|
  .ret) (.skip))) <|
  aw [ae 22 3,ay 23 .add 22 1,ae 3 23]
def px:DF:=⟨.seq (aw [bg 2 false]) <|
  .seq (.seq (.region [] [⟨none,[ae 4 0,((some 5),.op (.gS (.tmp 4))),ay 6 .eql 5 0,ae 7 6]⟩,⟨(some (7,false)),[ae 8 0,((some 9),.op (.gS (.tmp 8))),ay 10 .gtr 9 20]⟩,⟨none,[bI 11 7 10,ae 12 11]⟩,⟨(some (12,false)),[ae 13 0,((some 14),.op (.dq (.tmp 13) (.val (.val (.int .i64 0))))),aM 15 192 [14],cm 16 15]⟩,⟨none,[bI 17 12 16]⟩]) <|
  .cond (.tmp 17) (.seq (aw [bg 2 false]) <|
  .ret) (.skip)) <|
  .seq (.seq (aw [aH 3 0]) <|
  .block 0 (.loop vi)) <|
  .seq (aw [bg 2 true]) <|
  .ret,
  [.tmp 2],29⟩
theorem uN:bL Tryz.prog 142 []=some px:=by kernel_rfl
def kA:DF:=⟨.seq (aw [cr 4 1]) <|
  .seq (aw [ae 6 0,bK 7 6,aq 8 10 7,an 9 8,ay 10 .eql 9 0]) <|
  .cond (.tmp 10) (aw [ae 11 0,ae 12 0,aq 13 1 4,an 14 13,ae 15 2,bK 16 11,aq 17 9 16,(none,.op (.store 1 (.tmp 17) (.tmp 14))),bK 18 12,aq 19 10 18,(none,.op (.store 1 (.tmp 19) (.tmp 15)))]) (.skip),
  [],20⟩
theorem qa:bL Tryz.prog 126 [4]=some kA:=by kernel_rfl
def jq:DF:=⟨.seq (aw [cr 4 1,aH 6 0]) <|
  .seq (aw [ae 8 0,bK 9 8,aq 10 0 9,aS 11 4 10,aq 12 0 4,an 13 12,aM 14 125 [11,13],ae 7 14]) <|
  .seq (.block 0 (.seq (.region [] [⟨none,[ae 19 7,ay 20 .geq 19 0,ae 21 20]⟩,⟨(some (21,true)),[ae 22 2]⟩,⟨none,[bM 23 21 22,ae 18 23]⟩]) <|
  .cond (.tmp 18) (.seq (aw [ae 24 7,((some 25),.op (.arith .sub (.val (.val (.int .i64 (-1)))) (.tmp 24))),ae 6 25]) <|
  .ret) (.seq (aw [ae 27 7,ay 28 .geq 27 0,ae 26 28]) <|
  .cond (.tmp 26) (aw [ae 29 0,aS 30 2 4,cJ 31 126 [(.tmp 29),(.tmp 30),(.val (.val (.int .i64 6)))]]) (.seq (.region [] [⟨none,[ae 33 0,bK 34 33,aq 35 0 34,aS 36 4 35,aq 37 0 4,an 38 37,aM 39 140 [36,38],ay 40 .geq 39 0,ae 41 40]⟩,⟨(some (41,false)),[aq 42 0 4,an 43 42,aM 44 191 [43]]⟩,⟨none,[bI 45 41 44,ae 46 45]⟩,⟨(some (46,false)),[aq 47 0 4,an 48 47,((some 49),.op (.iV .eql (.tmp 48) (.val (.val (.string ⟨#[101,114,114,111,114]⟩)))))]⟩,⟨none,[bI 50 46 49,ae 32 50]⟩]) <|
  .cond (.tmp 32) (.seq (aw [ae 51 0,aS 52 2 4,aM 53 226 [51,52],ae 6 53]) <|
  .ret) (aw [ae 15 0,aS 16 2 4,cJ 17 126 [(.tmp 15),(.tmp 16),(.val (.val (.int .i64 6)))]]))))) <|
  .seq (aw [aH 6 0]) <|
  .ret,
  [.tmp 6],54⟩
theorem nX:bL Tryz.prog 185 [4]=some jq:=by kernel_rfl
def wQ:DC :=
  .seq (.seq (aw [ae 6 5,aq 7 1 2,an 8 7,aQ 9 8,aR 10 .lss 6 9]) <|
  .cond (.tmp 10) (.skip) (.exit 0)) <|
  .seq (.block 1 (.seq (aw [aq 13 1 2,an 14 13,ae 15 5,aN 16 1 14 15,an 17 16,ae 18 1,((some 19),.op (.iV .eql (.tmp 17) (.tmp 18)))]) <|
  .cond (.tmp 19) (.seq (aw [ae 20 5,ae 4 20]) <|
  .ret) (.skip))) <|
  aw [ae 11 5,ay 12 .add 11 1,ae 5 12]
def qh:DF:=⟨.seq (aw [cr 2 0,aH 4 0]) <|
  .seq (.seq (aw [aH 5 0]) <|
  .block 0 (.loop wQ)) <|
  .seq (aw [aH 4 (-1)]) <|
  .ret,
  [.tmp 4],21⟩
theorem uY:bL Tryz.prog 125 [2]=some qh:=by kernel_rfl
def vE:DC :=
  .seq (.seq (aw [ae 6 5,aq 7 0 2,an 8 7,aQ 9 8,aR 10 .lss 6 9]) <|
  .cond (.tmp 10) (.skip) (.exit 0)) <|
  .seq (.block 1 (.seq (aw [aq 13 0 2,an 14 13,ae 15 5,aN 16 3 14 15,aq 17 0 16,an 18 17,ae 19 1,((some 20),.op (.iV .eql (.tmp 18) (.tmp 19)))]) <|
  .cond (.tmp 20) (.seq (aw [ae 21 5,ae 4 21]) <|
  .ret) (.skip))) <|
  aw [ae 11 5,ay 12 .add 11 1,ae 5 12]
def o8:DF:=⟨.seq (aw [cr 2 0,aH 4 0]) <|
  .seq (.seq (aw [aH 5 0]) <|
  .block 0 (.loop vE)) <|
  .seq (aw [aH 4 (-1)]) <|
  .ret,
  [.tmp 4],22⟩
theorem uB:bL Tryz.prog 140 [2]=some o8:=by kernel_rfl
def iA:DF:=⟨.seq (aw [cr 3 1,aH 4 0]) <|
  .seq (aw [ae 6 0,bK 7 6,aq 8 0 7,aS 9 4 8,aq 10 0 3,an 11 10,aM 12 140 [9,11],ae 5 12]) <|
  .seq (.seq (aw [ae 13 5,ay 14 .geq 13 0]) <|
  .cond (.tmp 14) (.seq (aw [ae 15 5,ae 4 15]) <|
  .ret) (.skip)) <|
  .seq (.seq (aw [ae 16 0,bK 17 16,aq 18 0 17,aq 19 0 18,an 20 19,aQ 21 20,ay 22 .eql 21 24]) <|
  .cond (.tmp 22) (.seq (aw [ae 23 0,aS 24 2 3,cJ 25 126 [(.tmp 23),(.tmp 24),(.val (.val (.int .i64 5)))]]) <|
  .seq (aw [aH 4 0]) <|
  .ret) (.skip)) <|
  .seq (.region [] [⟨none,[ae 26 0,ae 27 0,bK 28 27,aq 29 0 28,aq 30 0 29,an 31 30,aq 32 0 3,an 33 32,((some 34),.op (.build [(.val (.string ⟨#[]⟩)),(.val (.int .i64 0)),(.val (.int .i64 0))] [(0,1,(.tmp 33))])),((some 35),.op (.bB 1 3 [(.val (.string ⟨#[]⟩)),(.val (.int .i64 0)),(.val (.int .i64 0))] [(0,(.tmp 34))])),((some 36),.op (.app 3 32 (.tmp 31) (.tmp 35))),bK 37 26,aq 38 0 37,aq 39 0 38,(none,.op (.store 1 (.tmp 39) (.tmp 36)))]⟩]) <|
  .seq (aw [ae 40 0,bK 41 40,aq 42 0 41,aq 43 0 42,an 44 43,aQ 45 44,ay 46 .sub 45 1,ae 4 46]) <|
  .ret,
  [.tmp 4],47⟩
theorem m6:bL Tryz.prog 226 [3]=some iA:=by kernel_rfl
def qc:DC :=
  .seq (.seq (.region [] [⟨none,[ae 60 7,aq 61 1 5,an 62 61,aQ 63 62,aR 64 .lss 60 63,ae 65 64]⟩,⟨(some (65,true)),[ae 66 0,bK 67 66,aq 68 10 67,an 69 68,ay 70 .eql 69 0]⟩,⟨none,[bM 71 65 70]⟩]) <|
  .cond (.tmp 71) (.skip) (.exit 2)) <|
  .seq (.block 3 (aw [ae 74 0,aq 75 0 5,an 76 75,aq 77 1 5,an 78 77,ae 79 7,aN 80 2 78 79,aS 81 2 80,aM 82 184 [74,76,81]])) <|
  aw [ae 72 7,ay 73 .add 72 1,ae 7 73]
def p7:DC :=
  .seq (.seq (.region [] [⟨none,[ae 8 4,ae 9 1,aQ 10 9,aR 11 .lss 8 10,ae 12 11]⟩,⟨(some (12,true)),[ae 13 0,bK 14 13,aq 15 10 14,an 16 15,ay 17 .eql 16 0]⟩,⟨none,[bM 18 12 17]⟩]) <|
  .cond (.tmp 18) (.skip) (.exit 0)) <|
  .seq (.block 1 (.seq (aw [ae 21 1,ae 22 4,aN 23 2 21 22,aS 24 2 23,((some 5),.op (.alloc [(.val (.int .i64 0)),(.emp 1)])),(none,.op (.store 2 (.tmp 5) (.tmp 24)))]) <|
  .seq (.seq (.region [] [⟨none,[aq 25 0 5,an 26 25,ay 27 .lss 26 3,ae 28 27]⟩,⟨(some (28,false)),[aq 29 0 5,an 30 29,ay 31 .gtr 30 7]⟩,⟨none,[bI 32 28 31]⟩]) <|
  .cond (.tmp 32) (.seq (.region [] [⟨none,[((some 33),.op (.build [(.val (.string ⟨#[]⟩)),(.val (.complex .f64 0 0))] [])),((some 6),.op (.alloc [(.val (.string ⟨#[]⟩)),(.val (.complex .f64 0 0))])),(none,.op (.store 2 (.tmp 6) (.tmp 33)))]⟩]) <|
  .seq (.seq (aw [aq 34 1 5,an 35 34,aQ 36 35,ay 37 .gtr 36 0]) <|
  .cond (.tmp 37) (aw [aq 38 1 5,an 39 38,((some 40),.op (.idx 2 (.tmp 39) (.val (.val (.int .i64 0))))),aS 41 2 40,(none,.op (.store 2 (.tmp 6) (.tmp 41)))]) (.skip)) <|
  .seq (aw [ae 42 0,aS 43 2 6,cJ 44 126 [(.tmp 42),(.tmp 43),(.val (.val (.int .i64 3)))]]) <|
  .ret) (.skip)) <|
  .seq (.seq (.region [] [⟨none,[aq 45 0 5,an 46 45,ay 47 .neq 46 3,ae 48 47]⟩,⟨(some (48,true)),[aq 49 0 5,an 50 49,ay 51 .neq 50 7]⟩,⟨none,[bM 52 48 51]⟩]) <|
  .cond (.tmp 52) (aw [ae 53 0,bK 54 53,aq 55 8 54,an 56 55,ay 57 .add 56 1,bK 58 53,aq 59 8 58,(none,.op (.store 1 (.tmp 59) (.tmp 57)))]) (.skip)) <|
  .seq (aw [aH 7 0]) <|
  .block 2 (.loop qc))) <|
  aw [ae 19 4,ay 20 .add 19 1,ae 4 20]
def jK:DF:=⟨.seq (aw [aH 4 0]) <|
  .block 0 (.loop p7),
  [],83⟩
theorem pV:bL Tryz.prog 122 []=some jK:=by kernel_rfl
def iU:DF:=⟨.seq (aw [cr 5 2]) <|
  .block 0 (.seq (.region [] [⟨none,[aq 63 0 5,an 64 63,aM 65 139 [64],cm 66 65,ae 67 66]⟩,⟨(some (67,false)),[ae 68 1,ay 69 .eql 68 7,ae 70 69]⟩,⟨(some (70,true)),[aq 71 0 5,an 72 71,aM 73 142 [72],cm 74 73]⟩,⟨(some (67,false)),[bM 75 70 74]⟩,⟨none,[bI 76 67 75,ae 62 76]⟩]) <|
  .cond (.tmp 62) (aw [ae 77 0,aS 78 2 5,cJ 79 126 [(.tmp 77),(.tmp 78),(.val (.val (.int .i64 3)))]]) (.seq (aw [ae 81 1,ay 82 .eql 81 7,ae 80 82]) <|
  .cond (.tmp 80) (.seq (.seq (aw [ae 83 0,bK 84 83,aq 85 7 84,an 86 85]) <|
  .cond (.tmp 86) (aw [ae 87 0,aS 88 2 5,cJ 89 126 [(.tmp 87),(.tmp 88),(.val (.val (.int .i64 7)))]]) (.skip)) <|
  aw [ae 90 0,ae 91 0,aS 92 2 5,bK 93 90,aq 94 5 93,(none,.op (.store 2 (.tmp 94) (.tmp 92))),bK 95 91,aq 96 7 95,(none,.op (.store 1 (.tmp 96) (.val (.val (.bool true)))))]) (.seq (aw [ae 98 1,ay 99 .eql 98 3,ae 97 99]) <|
  .cond (.tmp 97) (.seq (.seq (aw [ae 100 0,bK 101 100,aq 102 4 101,an 103 102,aq 104 0 5,an 105 104,aM 106 225 [103,105]]) <|
  .cond (.tmp 106) (aw [ae 107 0,aS 108 2 5,cJ 109 126 [(.tmp 107),(.tmp 108),(.val (.val (.int .i64 7)))]]) (.skip)) <|
  .seq (.region [] [⟨none,[ae 110 0,ae 111 0,bK 112 111,aq 113 4 112,an 114 113,aq 115 0 5,an 116 115,((some 117),.op (.bB 1 1 [(.val (.string ⟨#[]⟩))] [(0,(.tmp 116))])),((some 118),.op (.app 1 16 (.tmp 114) (.tmp 117))),bK 119 110,aq 120 4 119,(none,.op (.store 1 (.tmp 120) (.tmp 118)))]⟩]) <|
  aw [ae 121 0,aS 122 2 5,aM 123 226 [121,122]]) (.seq (aw [ae 7 0,bK 8 7,aq 9 0 8,aS 10 4 9,aq 11 0 5,an 12 11,aM 13 140 [10,12],ae 6 13]) <|
  .seq (.seq (.region [] [⟨none,[ae 14 6,ay 15 .geq 14 0,ae 16 15]⟩,⟨(some (16,true)),[ae 17 0,bK 18 17,aq 19 0 18,aq 20 0 19,an 21 20,ae 22 6,aN 23 3 21 22,aq 24 1 23,an 25 24,ay 26 .gtr 25 0]⟩,⟨none,[bM 27 16 26]⟩]) <|
  .cond (.tmp 27) (.seq (aw [ae 28 0,aS 29 2 5,cJ 30 126 [(.tmp 28),(.tmp 29),(.val (.val (.int .i64 7)))]]) <|
  .ret) (.skip)) <|
  .seq (aw [ae 31 0,aS 32 2 5,aM 33 226 [31,32],ae 6 33]) <|
  .seq (aw [ae 34 0,bK 35 34,aq 36 10 35,an 37 36,ay 38 .eql 37 0]) <|
  .cond (.tmp 38) (aw [ae 39 0,bK 40 39,aq 41 0 40,aq 42 0 41,an 43 42,ae 44 6,ae 45 0,bK 46 45,aq 47 0 46,aq 48 0 47,an 49 48,ae 50 6,ae 51 0,bK 52 51,aq 53 8 52,an 54 53,ae 55 1,ay 56 .sub 55 4,ay 57 .add 56 1,aN 58 3 43 44,aq 59 1 58,(none,.op (.store 1 (.tmp 59) (.tmp 54))),aN 60 3 49 50,aq 61 2 60,(none,.op (.store 1 (.tmp 61) (.tmp 57)))]) (.skip))))),
  [],124⟩
theorem ng:bL Tryz.prog 184 [5]=some iU:=by kernel_rfl
def wV:DC :=
  .seq (.seq (aw [ae 6 5,ae 7 0,aQ 8 7,aR 9 .lss 6 8]) <|
  .cond (.tmp 9) (.skip) (.exit 0)) <|
  .seq (.block 1 (.seq (aw [ae 12 0,ae 13 5,aN 14 1 12 13,an 15 14,ae 16 1,((some 17),.op (.iV .eql (.tmp 15) (.tmp 16)))]) <|
  .cond (.tmp 17) (.seq (aw [bg 4 true]) <|
  .ret) (.skip))) <|
  aw [ae 10 5,ay 11 .add 10 1,ae 5 11]
def qm:DF:=⟨.seq (aw [bg 4 false]) <|
  .seq (.seq (aw [aH 5 0]) <|
  .block 0 (.loop wV)) <|
  .seq (aw [bg 4 false]) <|
  .ret,
  [.tmp 4],18⟩
theorem vz:bL Tryz.prog 225 []=some qm:=by kernel_rfl
def p9:DC :=
  .seq (.seq (.region [] [⟨none,[ae 6 4,ae 7 1,aQ 8 7,aR 9 .lss 6 8,ae 10 9]⟩,⟨(some (10,true)),[ae 11 0,bK 12 11,aq 13 10 12,an 14 13,ay 15 .eql 14 0]⟩,⟨none,[bM 16 10 15]⟩]) <|
  .cond (.tmp 16) (.skip) (.exit 0)) <|
  .seq (.block 1 (.seq (.region [] [⟨none,[ae 19 1,ae 20 4,aN 21 5 19 20,aq 22 0 21,aS 23 2 22,((some 5),.op (.alloc [(.val (.string ⟨#[]⟩)),(.val (.complex .f64 0 0))])),(none,.op (.store 2 (.tmp 5) (.tmp 23)))]⟩]) <|
  .block 2 (.seq (aw [aq 38 0 5,an 39 38,aM 40 142 [39],cm 41 40,ae 37 41]) <|
  .cond (.tmp 37) (aw [ae 42 0,aS 43 2 5,cJ 44 126 [(.tmp 42),(.tmp 43),(.val (.val (.int .i64 3)))]]) (.seq (aw [ae 46 0,bK 47 46,aq 48 0 47,aS 49 4 48,aq 50 0 5,an 51 50,aM 52 140 [49,51],ay 53 .geq 52 0,ae 45 53]) <|
  .cond (.tmp 45) (aw [ae 54 0,aS 55 2 5,cJ 56 126 [(.tmp 54),(.tmp 55),(.val (.val (.int .i64 7)))]]) (.seq (aw [ae 58 0,bK 59 58,aq 60 0 59,aS 61 4 60,aq 62 0 5,an 63 62,aM 64 125 [61,63],ay 65 .geq 64 0,ae 57 65]) <|
  .cond (.tmp 57) (.skip) (.seq (aw [ae 67 0,bK 68 67,aq 69 0 68,aq 70 1 69,an 71 70,aQ 72 71,ay 73 .eql 72 16,ae 66 73]) <|
  .cond (.tmp 66) (aw [ae 74 0,aS 75 2 5,cJ 76 126 [(.tmp 74),(.tmp 75),(.val (.val (.int .i64 5)))]]) (.region [] [⟨none,[ae 24 0,ae 25 0,bK 26 25,aq 27 0 26,aq 28 1 27,an 29 28,aq 30 0 5,an 31 30,((some 32),.op (.bB 1 1 [(.val (.string ⟨#[]⟩))] [(0,(.tmp 31))])),((some 33),.op (.app 1 16 (.tmp 29) (.tmp 32))),bK 34 24,aq 35 0 34,aq 36 1 35,(none,.op (.store 1 (.tmp 36) (.tmp 33)))]⟩]))))))) <|
  aw [ae 17 4,ay 18 .add 17 1,ae 4 18]
def j4:DF:=⟨.seq (aw [aH 4 0]) <|
  .block 0 (.loop p9),
  [],77⟩
theorem pK:bL Tryz.prog 123 []=some j4:=by kernel_rfl
def BH:List (FuncId × DF):=[(41,pC),(70,ni),(120,mq),(176,pH),(215,qi),(216,pW),(217,pk),(218,mC),(234,mc),(177,rG),(219,q5),(178,qt),(193,nN),(192,nF),(191,lN),(220,lO),(221,lA),(222,pr),(121,q4),(182,jn),(181,iQ),(223,jx),(224,kF),(180,jy),(183,jr),(179,iZ),(71,nI),(124,kG),(139,nH),(142,px),(126,kA),(185,jq),(125,qh),(140,o8),(226,iA),(122,jK),(184,iU),(225,qm),(123,j4)]
theorem IY:sx Tryz.prog BH:=by
  intro p hp
  simp only[BH,List.mem_cons,List.not_mem_nil,or_false] at hp
  rcases hp with rfl | rfl | rfl | rfl | rfl | rfl | rfl | rfl | rfl | rfl | rfl | rfl | rfl | rfl | rfl | rfl | rfl | rfl | rfl | rfl | rfl | rfl | rfl | rfl | rfl | rfl | rfl | rfl | rfl | rfl | rfl | rfl | rfl | rfl | rfl | rfl | rfl | rfl | rfl
  · exact ⟨_,ux⟩
  · exact ⟨_,sT⟩
  · exact ⟨_,rQ⟩
  · exact ⟨_,uy⟩
  · exact ⟨_,uX⟩
  · exact ⟨_,tU⟩
  · exact ⟨_,tE⟩
  · exact ⟨_,rP⟩
  · exact ⟨_,rM⟩
  · exact ⟨_,wT⟩
  · exact ⟨_,wX⟩
  · exact ⟨_,vh⟩
  · exact ⟨_,tv⟩
  · exact ⟨_,sZ⟩
  · exact ⟨_,rD⟩
  · exact ⟨_,rz⟩
  · exact ⟨_,qZ⟩
  · exact ⟨_,tQ⟩
  · exact ⟨_,wO⟩
  · exact ⟨_,nU⟩
  · exact ⟨_,nf⟩
  · exact ⟨_,oh⟩
  · exact ⟨_,pY⟩
  · exact ⟨_,ou⟩
  · exact ⟨_,oc⟩
  · exact ⟨_,nh⟩
  · exact ⟨_,sW⟩
  · exact ⟨_,p8⟩
  · exact ⟨_,tf⟩
  · exact ⟨_,uN⟩
  · exact ⟨_,qa⟩
  · exact ⟨_,nX⟩
  · exact ⟨_,uY⟩
  · exact ⟨_,uB⟩
  · exact ⟨_,m6⟩
  · exact ⟨_,pV⟩
  · exact ⟨_,ng⟩
  · exact ⟨_,vz⟩
  · exact ⟨_,pK⟩
def zQ (l:List Int):V:=.aY (l.map fun x=>[gy x])
theorem Kz (l:List Int):Tree (zQ l):=eU _ _ fun x _ v hv=>by simp at hv; subst hv; exact .val _
def qR (g:ao):V:=.bt [.agg (al g),.val (.complex .f64 0 0),gi 0]
theorem GF {l:List Int} {g:ao} (h:tG Tryz.prog BH (fun _ _ _=>none) 41 [zQ l]=some (qR g)):bN Tryz.prog 41 [zQ l] (qR g) :=
  qG mixed IY (IJ _) (by intro v hv; simp at hv; subst hv; exact Kz _) h
end Gv
set_option linter.unusedSimpArgs false
namespace Gv
open Go
abbrev dz (κ:Type):=List (κ × V × Nat)
def cZ {κ:Type} (key:κ→Value) (m:dz κ):List (V × V × Nat):=m.map fun x=>(.val (key x.1),x.2.1,x.2.2)
def getM {κ:Type} [BEq κ] (m:dz κ) (k:κ):Option V:=(m.find? fun x=>k == x.1).map (·.2.1)
def cU {κ:Type} [BEq κ] (k:κ) (v:V) (c:Nat):dz κ→dz κ
  | []=>[(k,v,c)]
  | x :: r=>if k == x.1 then (k,v,x.2.2) :: r else x :: cU k v c r
structure BI {κ:Type} [BEq κ] (P:Program) (kt:TypeId) (key:κ→Value):Prop where
  ty:∃ d,P.underlying kt=some d∧(∀ a b,Instr.sameNow d (key a) (key b)=some (a == b))∧(∀ a e,bD P (Instr.checkKey e 10000 kt (key a))=some ())
  bits:∀ a b,(a == b)=true→Instr.sameBits 10000 (key b) (key a)=true
theorem tH {κ:Type} (key:κ→Value):∀ m:dz κ,iJ (cZ key m)=some (m.map fun x=>{ key:=key x.1,val:=.nilFunc,born:=x.2.2 })
  | []=>rfl
  | x :: r=>by
    have:=tH key r
    simp only[cZ] at this
    simp[cZ,iJ,cH,this]
def jL {κ:Type} [BEq κ] (k:κ):dz κ→Option Nat
  | []=>none
  | x :: r=>if k == x.1 then some 0 else (jL k r).map (·+1)
theorem y3 {κ:Type} [BEq κ] {key:κ→Value} {d:TypeDesc} (h:∀ a b,Instr.sameNow d (key a) (key b)=some (a == b)) (k:κ):∀ (m:dz κ) (i:Nat),
    Instr.findNow d (key k) (m.map fun x=>{ key:=key x.1,val:=.nilFunc,born:=x.2.2 }) i=some ((jL k m).map fun j=>(i+j,.nilFunc))
  | [],i=>rfl
  | x :: r,i=>by
    simp only[List.map_cons,Instr.findNow,h,jL]
    cases hk:k == x.1 with
    | true=>simp
    | false =>
      simp only[y3 h k r (i+1),Bool.false_eq_true,if_false,Option.map_map]
      congr 2
      funext j
      simp only[Function.comp]
      congr 1
      omega
theorem xl {κ:Type} [BEq κ] {P:Program} {kt:TypeId} {key:κ→Value} (h:BI P kt key) (k:κ) (e:Bool) (m:dz κ):mQ P kt (.val (key k)) e (cZ key m)=some (jL k m):=by
  obtain ⟨d,hd,hn,hc⟩:=h.ty
  have hu:bD P (underlying kt)=some d:=dY hd
  simp only[mQ,cH,tH,bz,hc,Option.bind_some]
  have:bD P (Instr.findKey kt (key k) (m.map fun x=>{ key:=key x.1,val:=.nilFunc,born:=x.2.2 }))=some ((jL k m).map fun j=>(0+j,.nilFunc)):=by
    unfold Instr.findKey
    rw[bz,hu,Option.bind_some,y3 hn]
    rfl
  rw[this]
  cases jL k m with
  | none=>rfl
  | some j=>simp
theorem Je {P:Program} {kt:TypeId} {d:TypeDesc} (h:P.underlying kt=some d) (hd:match d with | .int _ | .string | .bool=>True | _=>False) (e:Bool) (n:Nat) (v:Value):bD P (Instr.checkKey e (n+1) kt v)=some ():=by
  unfold Instr.checkKey
  rw[bz,dY h,Option.bind_some]
  cases d <;> first | exact hd.elim | rfl
theorem ig {P:Program} {kt:TypeId} (k:IntKind) (h:P.underlying kt=some (.int k)):BI P kt (Value.int k) where
  ty:=⟨_,h,fun a b=>by simp[Instr.sameNow],fun a e=>Je h trivial e 9999 _⟩
  bits:=fun a b hab=>by
    have:a=b:=by simpa using hab
    subst this
    simp[Instr.sameBits]
theorem vn {κ:Type} [BEq κ] {key:κ→Value} (k:κ):∀ m:dz κ,match jL k m with
    | some i=>∃ x,m[i]?=some x∧(k == x.1)=true∧getM m k=some x.2.1∧(cZ key m)[i]?=some (.val (key x.1),x.2.1,x.2.2)∧∀ v c,(cZ key m).set i (.val (key k),v,x.2.2)=cZ key (cU k v c m)∧(cU k v c m).length=m.length
    | none=>getM m k=none∧∀ v c,cZ key m ++ [(.val (key k),v,c)]=cZ key (cU k v c m)∧(cU k v c m).length=m.length+1
  | []=>⟨rfl,fun v c=>⟨rfl,rfl⟩⟩
  | x :: r=>by
    have ih:=vn (key:=key) k r
    simp only[jL]
    cases hk:k == x.1 with
    | true=>exact ⟨x,rfl,hk,by simp[getM,hk],rfl,fun v c=>by simp[cU,hk,cZ]⟩
    | false =>
      simp only[Bool.false_eq_true,if_false]
      cases hi:jL k r with
      | some i =>
        rw[hi] at ih
        obtain ⟨y,h1,h2,h3,h4,h5⟩:=ih
        refine ⟨y,by simpa using h1,h2,by simpa [getM,hk] using h3,by simpa [cZ] using h4,fun v c=>?_⟩
        obtain ⟨g1,g2⟩:=h5 v c
        exact ⟨by simp only[cZ] at g1 ⊢; simp[cU,hk,g1],by simp[cU,hk,g2]⟩
      | none =>
        rw[hi] at ih
        refine ⟨by simpa [getM,hk] using ih.1,fun v c=>?_⟩
        obtain ⟨g1,g2⟩:=ih.2 v c
        exact ⟨by simp only[cZ] at g1 ⊢; simp[cU,hk,g1],by simp[cU,hk,g2]⟩
section
variable {P:Program} {T:Env} {H:View} {κ:Type} [BEq κ] {key:κ→Value} {kt et t ty:TypeId}
theorem yM {K:V→View→Prop} {w:cI (T,H,K)} {x i:Operand} {z:V} {id c:Nat} {m:dz κ} {k:κ} (hm:eS P t=some (kt,et)) (hz:zeroV P et=some z) (hk:BI P kt key)
    (hx:ev T x=.mp id) (hi:ev T i=.val (key k)) (hH:H id=.map (cZ key m) c) (h:K ((getM m k).getD z) H):oR P (.lookup t x i false) ty T H K w:=by
  intro n _
  have hf:=xl hk k (cZ key m).isEmpty m
  have hg:=vn (key:=key) k m
  refine ⟨(getM m k).getD z,.none,[id],?_,h⟩
  simp only[sI,cd,oper,eV,hm,hz,hx,hi,hH,hf]
  cases hj:jL k m with
  | some j =>
    rw[hj] at hg
    obtain ⟨y,h1,h2,h3,h4,_⟩:=hg
    simp[h4,h3]
  | none =>
    rw[hj] at hg
    simp[hg.1]
theorem NM {K:V→View→Prop} {w:cI (T,H,K)} {x i:Operand} {z:V} {id c:Nat} {m:dz κ} {k:κ} (hm:eS P t=some (kt,et)) (hz:zeroV P et=some z) (hk:BI P kt key)
    (hx:ev T x=.mp id) (hi:ev T i=.val (key k)) (hH:H id=.map (cZ key m) c) (h:K (.bt [(getM m k).getD z,.val (.bool (getM m k).isSome)]) H):oR P (.lookup t x i true) ty T H K w:=by
  intro n _
  have hf:=xl hk k (cZ key m).isEmpty m
  have hg:=vn (key:=key) k m
  refine ⟨_,.none,[id],?_,h⟩
  simp only[sI,cd,oper,eV,hm,hz,hx,hi,hH,hf]
  cases hj:jL k m with
  | some j =>
    rw[hj] at hg
    obtain ⟨y,h1,h2,h3,h4,_⟩:=hg
    simp[h4,h3]
  | none =>
    rw[hj] at hg
    simp[hg.1]
theorem MD (hk:BI P kt key) (k k':κ) (h:(k == k')=true):sameKey (.val (key k')) (.val (key k))=true:=by
  simp only[sameKey,cH]; exact hk.bits _ _ h
theorem xZ {K:V→View→Prop} {w:cI (T,H,K)} {x i y:Operand} {id c:Nat} {m:dz κ} {k:κ} {v:V} (hm:eS P t=some (kt,et)) (hk:BI P kt key)
    (hx:ev T x=.mp id) (hi:ev T i=.val (key k)) (hy:ev T y=v) (hH:H id=.map (cZ key m) c)
    (h:∀ c',K .any (H.set id (.map (cZ key (cU k v c m)) c'))):oR P (.mapUpdate t x i y) ty T H K w:=by
  intro n _
  have hf:=xl hk k false m
  have hg:=vn (key:=key) k m
  cases hj:jL k m with
  | some j =>
    rw[hj] at hg hf
    obtain ⟨z,h1,h2,h3,h4,h5⟩:=hg
    refine ⟨.any,.fK id (.map ((cZ key m).set j (.val (key k),v,z.2.2)) c),[id],?_,?_⟩
    · simp only[sI,cd,oper,fg,hm,hx,hi,hy,hH,hf,h4,MD hk k z.1 h2,if_true]
    · rw[(h5 v c).1]; exact h c
  | none =>
    rw[hj] at hg hf
    refine ⟨.any,.fK id (.map (cZ key m ++ [(.val (key k),v,c)]) (c+1)),[id],?_,?_⟩
    · simp only[sI,cd,oper,fg,hm,hx,hi,hy,hH,hf]
    · rw[(hg.2 v c).1]; exact h (c+1)
theorem O3 {P:Program} {T:Env} {H:View} {t ty:TypeId} {x i y:Operand} {K:V→View→Prop} {w:cI (T,H,K)} : oR P (.insert t x i y) ty T H K w=oR P (.mapUpdate t x i y) ty T H K w:=propext Iff.rfl
omit [BEq κ] in
theorem Pd {K:V→View→Prop} {w:cI (T,H,K)} {x:Operand} {id c:Nat} {m:dz κ} (hm:eS P t=some (kt,et)) (hx:ev T x=.mp id) (hH:H id=.map (cZ key m) c) (h:K (aj m.length) H) :
    oR P (.call { callee:=.builtin .len,args:=#[x],argTypes:=#[t] }) ty T H K w:=by
  intro n _
  have hu:∃ a b,P.underlying t=some (.map a b):=by
    unfold eS at hm
    split at hm
    · rename_i a b h1; exact ⟨a,b,h1⟩
    · simp at hm
  obtain ⟨a,b,hu⟩:=hu
  refine ⟨aj m.length,.none,[id],?_,h⟩
  have hl:(cZ key m).length=m.length:=by simp[cZ]
  simp only[sI,cd,oper,List.size_toArray,List.length_cons,List.length_nil,tz,hx,hH,hl]
  simp[hu]
end
theorem zm {κ:Type} [BEq κ] [LawfulBEq κ] (k k':κ) (v:V) (c:Nat):∀ m:dz κ,getM (cU k v c m) k'=if k' == k then some v else getM m k'
  | []=>by
    by_cases h:k'=k
    · subst h; simp[cU,getM]
    · simp[cU,getM,h]
  | x :: r=>by
    have ih:=zm k k' v c r
    simp only[cU]
    by_cases hk:k=x.1
    · by_cases h:k'=k
      · subst h; simp[hk,getM]
      · have:¬ k'=x.1:=fun e=>h (e.trans hk.symm)
        simp[hk,getM,this]
    · simp only[beq_iff_eq,hk,if_false]
      by_cases h:k'=x.1
      · have:¬ k'=k:=fun e=>hk (e.symm.trans h)
        simp[getM,h]
        subst h
        simp[this]
      · simp only[getM,List.find?_cons,beq_eq_false_iff_ne.2 h] at ih ⊢
        exact ih
def dx {κ β:Type} [BEq κ] (a:List (κ × β)) (k:κ):Option β:=(a.find? fun x=>k == x.1).map (·.2)
def jh {κ β:Type} [BEq κ] (k:κ) (v:β):List (κ × β)→List (κ × β)
  | []=>[(k,v)]
  | x :: r=>if k == x.1 then (k,v) :: r else x :: jh k v r
def mH {κ β:Type} (encV:β→V):List (κ × β)→dz κ→Prop
  | [],[]=>True
  | x :: a,y :: m=>y.1=x.1∧y.2.1=encV x.2∧mH encV a m
  | _,_=>False
theorem mH.get {κ β:Type} [BEq κ] {encV:β→V} (k:κ):∀ {a:List (κ × β)} {m:dz κ},mH encV a m→getM m k=(dx a k).map encV
  | [],[],_=>rfl
  | x :: a,y :: m,⟨h1,h2,h3⟩=>by
    have ih:=mH.get k h3
    simp only[getM,dx,List.find?_cons,h1] at ih ⊢
    cases k == x.1 with
    | true=>simp[h2]
    | false=>simpa using ih
theorem mH.put {κ β:Type} [BEq κ] {encV:β→V} (k:κ) (v:β) (c:Nat):∀ {a:List (κ × β)} {m:dz κ},mH encV a m→mH encV (jh k v a) (cU k (encV v) c m)
  | [],[],_=>⟨rfl,rfl,trivial⟩
  | x :: a,y :: m,⟨h1,h2,h3⟩=>by
    have ih:=mH.put k v c h3
    simp only[jh,cU,h1]
    cases k == x.1 with
    | true=>exact ⟨rfl,rfl,h3⟩
    | false=>exact ⟨h1,h2,ih⟩
theorem mH.len {κ β:Type} {encV:β→V} : ∀ {a:List (κ × β)} {m:dz κ},mH encV a m→m.length=a.length
  | [],[],_=>rfl
  | x :: a,y :: m,⟨_,_,h3⟩=>by simp[mH.len h3]
theorem F3 {κ β:Type} [BEq κ] [LawfulBEq κ] (k k':κ) (v:β):∀ a:List (κ × β),dx (jh k v a) k'=if k' == k then some v else dx a k'
  | []=>by
    by_cases h:k'=k
    · subst h; simp[jh,dx]
    · simp[jh,dx,h]
  | x :: r=>by
    have ih:=F3 k k' v r
    simp only[jh]
    by_cases hk:k=x.1
    · by_cases h:k'=k
      · subst h; simp[hk,dx]
      · have:¬ k'=x.1:=fun e=>h (e.trans hk.symm)
        simp[hk,dx,this]
    · simp only[beq_iff_eq,hk,if_false]
      by_cases h:k'=x.1
      · have:¬ k'=k:=fun e=>hk (e.symm.trans h)
        simp[dx,h]
        subst h
        simp[this]
      · simp only[dx,List.find?_cons,beq_eq_false_iff_ne.2 h] at ih ⊢
        exact ih
def E5 (n k:Nat) (J:Nat→Env→View→Prop) (T:Env) (H:View):Prop:=∃ i,i+k=n∧J i T H
theorem bb.up {P:Program} {T:Env} {H:View} {c:SC} {Q:Exit→Env→View→Prop} {v:cI (T,H,Q)} (n:Nat) (J:Nat→Env→View→Prop) (h0:J 0 T H)
    (hs:∀ i k T H,i+k=n→J i T H→wS P c T H fun e T' H'=>Bd e (∃ k',k' < k∧E5 n k' J T' H') (Q e T' H')):bb P c T H Q v :=
  bb.intro (fun k T H=>E5 n k J T H) n ⟨0,by omega,h0⟩ fun k T H ⟨i,hk,hj⟩=>hs i k T H hk hj
theorem aI {n i k:Nat} {J:Nat→Env→View→Prop} {T:Env} {H:View} (hk:i+k=n) (hlt:i < n) (hJ:J (i+1) T H):∃ k',k' < k∧E5 n k' J T H:=⟨k - 1,by omega,i+1,by omega,hJ⟩
end Gv
