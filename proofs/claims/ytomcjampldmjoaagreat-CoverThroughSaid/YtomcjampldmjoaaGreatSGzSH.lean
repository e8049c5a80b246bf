/-
  Part 8 of the proof: what the machine does and what the functions answer.
  Conditions: those that each lemma names.
-/
import Derived.Test.YtomcjampldmjoaaGreatSGzSG
set_option linter.unusedSimpArgs false
set_option linter.unusedVariables false
set_option maxRecDepth 100000
namespace Gv
open Go Go.Proofs
def pj:DF:=⟨.seq (aw [((some 2),.op (.alloc [(.emp 1),(.emp 1),(.emp 1),(.val (.int .i64 0))])),((some 3),.op (.aZ (.val (.val (.complex .f64 0 0))))),aH 4 0]) <|
  .seq (aw [ae 9 0,aL 10 70 [9],ae 8 10,bU 11 0 8,bU 12 1 8,bU 13 2 8,((some 5),.op (.alloc [(.emp 1),(.emp 1)])),(none,.op (.store 2 (.tmp 5) (.tmp 11))),ae 6 12,ae 7 13]) <|
  .seq (.seq (aw [ae 14 7,ax 15 .neq 14 0]) <|
  .cond (.tmp 15) (.seq (aw [((some 16),.op (.build [(.emp 1),(.emp 1),(.emp 1),(.val (.int .i64 0))] [])),ae 17 6,ae 18 7,(none,.op (.store 4 (.tmp 2) (.tmp 16))),ae 3 17,ae 4 18]) <|
  .ret) (.skip)) <|
  .seq (aw [aT 19 2 5,aL 20 71 [19],bU 21 0 20,bU 22 1 20,bU 23 2 20,(none,.op (.store 4 (.tmp 2) (.tmp 21))),ae 3 22,ae 4 23]) <|
  .ret,
  [.cell 2 (some 4),.tmp 3,.tmp 4],24⟩
theorem tq:bK Tryz.prog 41 []=some pj:=by kernel_rfl
def nI:DF:=⟨.seq (aw [((some 2),.op (.alloc [(.emp 1),(.emp 1)])),((some 3),.op (.aZ (.val (.val (.complex .f64 0 0))))),aH 4 0]) <|
  .seq (aw [ae 9 0,aL 10 120 [9],ae 8 10,bU 11 0 8,bU 12 1 8,bU 13 2 8,ae 5 11,ae 6 12,ae 7 13]) <|
  .seq (.seq (aw [ae 14 7,ax 15 .neq 14 0]) <|
  .cond (.tmp 15) (.seq (aw [((some 16),.op (.build [(.emp 1),(.emp 1)] [])),ae 17 6,ae 18 7,(none,.op (.store 2 (.tmp 2) (.tmp 16))),ae 3 17,ae 4 18]) <|
  .ret) (.skip)) <|
  .seq (aw [ae 19 5,ae 20 6,aL 21 121 [19,20],bU 22 0 21,bU 23 1 21,bU 24 2 21,(none,.op (.store 2 (.tmp 2) (.tmp 22))),ae 3 23,ae 4 24]) <|
  .ret,
  [.cell 2 (some 2),.tmp 3,.tmp 4],25⟩
theorem sJ:bK Tryz.prog 70 []=some nI:=by kernel_rfl
def s9:DC :=
  .seq (.seq (.region [] [⟨none,[ae 16 6,ae 17 0,aP 18 17,aR 19 .lss 16 18,ae 20 19]⟩,⟨(some (20,true)),[ae 21 7,ax 22 .lss 21 2]⟩,⟨none,[bN 23 20 22]⟩]) <|
  .cond (.tmp 23) (.skip) (.exit 0)) <|
  .block 1 (.seq (aw [ae 25 0,ae 26 6,aL 27 176 [25,26],ae 24 27,bU 28 0 24,bU 29 1 24,ae 8 28,ae 9 29]) <|
  .seq (.seq (aw [ae 30 8,ax 31 .lss 30 0]) <|
  .cond (.tmp 31) (.seq (aw [ae 32 0,ae 33 6,aL 34 177 [32,33],((some 2),.op (.aZ (.val (.emp 1)))),ae 3 34,aH 4 4]) <|
  .ret) (.skip)) <|
  .seq (.seq (aw [ae 35 9]) <|
  .cond (.tmp 35) (.seq (aw [ae 36 8,ae 6 36]) <|
  .exit 1) (.skip)) <|
  .seq (.region [] [⟨none,[ae 38 0,ae 39 6,aL 40 178 [38,39],ae 37 40,bU 41 0 37,bU 42 1 37,bU 43 2 37,((some 10),.op (.alloc [(.val (.int .i64 0)),(.val (.string ⟨#[]⟩)),(.val (.complex .f64 0 0))])),(none,.op (.store 3 (.tmp 10) (.tmp 41))),ae 11 42,ae 12 43]⟩]) <|
  .seq (.seq (aw [ae 44 12,ax 45 .neq 44 0]) <|
  .cond (.tmp 45) (.seq (aw [aq 46 2 10,an 47 46,ae 48 12,((some 2),.op (.aZ (.val (.emp 1)))),ae 3 47,ae 4 48]) <|
  .ret) (.skip)) <|
  .seq (.seq (aw [aq 49 0 10,an 50 49,ax 51 .eql 50 9]) <|
  .cond (.tmp 51) (aw [ae 52 7,ax 53 .add 52 1,ae 7 53]) (.skip)) <|
  .region [] [⟨none,[ae 54 5,aT 55 3 10,((some 56),.op (.bA 1 3 [(.val (.int .i64 0)),(.val (.string ⟨#[]⟩)),(.val (.complex .f64 0 0))] [(0,(.tmp 55))])),((some 57),.op (.app 3 40 (.tmp 54) (.tmp 56))),ae 58 11,ae 5 57,ae 6 58]⟩])
def mR:DF:=⟨.seq (aw [((some 2),.op (.aZ (.val (.emp 1)))),((some 3),.op (.aZ (.val (.val (.complex .f64 0 0))))),aH 4 0]) <|
  .seq (.seq (aw [ae 13 0,aP 14 13,ax 15 .gtr 14 4000]) <|
  .cond (.tmp 15) (.seq (aw [((some 2),.op (.aZ (.val (.emp 1)))),((some 3),.op (.aZ (.val (.val (.complex .f64 0 0))))),aH 4 5]) <|
  .ret) (.skip)) <|
  .seq (aw [((some 5),.op (.aZ (.val (.emp 1))))]) <|
  .seq (aw [aH 6 0,aH 7 0]) <|
  .seq (.block 0 (.loop s9)) <|
  .seq (aw [ae 59 5,ae 60 0,ae 61 0,aP 62 61,aL 63 177 [60,62],ae 2 59,ae 3 63,aH 4 0]) <|
  .ret,
  [.tmp 2,.tmp 3,.tmp 4],64⟩
theorem rF:bK Tryz.prog 120 []=some mR:=by kernel_rfl
def pB:DF:=⟨.seq (aw [aH 4 0,bg 5 false]) <|
  .seq (.block 0 (.seq (.region [] [⟨none,[ae 7 0,ae 8 1,aQ 9 1 7 8,an 10 9,((some 11),.op (.arith .eql (.tmp 10) (.val (.val (.int .u8 32))))),ae 12 11]⟩,⟨(some (12,false)),[ae 13 0,ae 14 1,aQ 15 1 13 14,an 16 15,((some 17),.op (.arith .eql (.tmp 16) (.val (.val (.int .u8 9)))))]⟩,⟨none,[bH 18 12 17,ae 19 18]⟩,⟨(some (19,false)),[ae 20 0,ae 21 1,aQ 22 1 20 21,an 23 22,((some 24),.op (.arith .eql (.tmp 23) (.val (.val (.int .u8 10)))))]⟩,⟨none,[bH 25 19 24,ae 26 25]⟩,⟨(some (26,false)),[ae 27 0,ae 28 1,aQ 29 1 27 28,an 30 29,((some 31),.op (.arith .eql (.tmp 30) (.val (.val (.int .u8 13)))))]⟩,⟨none,[bH 32 26 31,ae 6 32]⟩]) <|
  .cond (.tmp 6) (.seq (aw [ae 33 1,ax 34 .add 33 1,ae 4 34,bg 5 true]) <|
  .ret) (.seq (.region [] [⟨none,[ae 36 0,ae 37 1,cL 38 215 [(.tmp 36),(.tmp 37),(.val (.val (.string ⟨#[47,42]⟩)))],ae 35 38]⟩]) <|
  .cond (.tmp 35) (.seq (.region [] [⟨none,[ae 39 0,ae 40 1,ax 41 .add 40 2,cL 42 216 [(.tmp 39),(.tmp 41),(.val (.val (.string ⟨#[42,47]⟩)))],ae 4 42,bg 5 true]⟩]) <|
  .ret) (.seq (.region [] [⟨none,[ae 44 0,ae 45 1,cL 46 215 [(.tmp 44),(.tmp 45),(.val (.val (.string ⟨#[47,47]⟩)))],ae 43 46]⟩]) <|
  .cond (.tmp 43) (.seq (aw [ae 47 0,ae 48 1,aL 49 217 [47,48],ae 4 49,bg 5 true]) <|
  .ret) (.seq (.region [] [⟨none,[ae 51 0,ae 52 1,cL 53 215 [(.tmp 51),(.tmp 52),(.val (.val (.string ⟨#[37,123]⟩)))],ae 50 53]⟩]) <|
  .cond (.tmp 50) (.seq (.region [] [⟨none,[ae 54 0,ae 55 1,ax 56 .add 55 2,cL 57 216 [(.tmp 54),(.tmp 56),(.val (.val (.string ⟨#[37,125]⟩)))],ae 4 57,bg 5 true]⟩]) <|
  .ret) (.seq (aw [ae 59 0,ae 60 1,aQ 61 1 59 60,an 62 61,((some 63),.op (.arith .eql (.tmp 62) (.val (.val (.int .u8 60))))),ae 58 63]) <|
  .cond (.tmp 58) (.seq (.region [] [⟨none,[ae 64 0,ae 65 0,ae 66 1,aL 67 217 [65,66],((some 68),.op (.slice 1 (.tmp 64) none (some (.tmp 67)))),ae 69 1,ax 70 .add 69 1,cL 71 216 [(.tmp 68),(.tmp 70),(.val (.val (.string ⟨#[62]⟩)))],ae 4 71,bg 5 true]⟩]) <|
  .ret) (.seq (aw [ae 73 0,ae 74 1,aQ 75 1 73 74,an 76 75,((some 77),.op (.arith .eql (.tmp 76) (.val (.val (.int .u8 123))))),ae 72 77]) <|
  .cond (.tmp 72) (.seq (aw [ae 78 0,ae 79 1,aL 80 218 [78,79],ae 4 80,bg 5 true]) <|
  .ret) (.skip)))))))) <|
  .seq (aw [ae 81 1,ae 4 81,bg 5 false]) <|
  .ret,
  [.tmp 4,.tmp 5],82⟩
theorem tt:bK Tryz.prog 176 []=some pB:=by kernel_rfl
def p8:DF:=⟨.seq (aw [bg 6 false]) <|
  .seq (.region [] [⟨none,[ae 7 1,ae 8 2,((some 9),.op (.gP (.tmp 8))),aR 10 .add 7 9,ae 11 0,aP 12 11,aR 13 .leq 10 12,ae 14 13]⟩,⟨(some (14,true)),[ae 15 0,ae 16 1,ae 17 1,ae 18 2,((some 19),.op (.gP (.tmp 18))),aR 20 .add 17 19,((some 21),.op (.slice 1 (.tmp 15) (some (.tmp 16)) (some (.tmp 20)))),((some 22),.op (.old (.convert 73 9 (.tmp 21)) 9)),ae 23 2,((some 24),.op (.iN .eql (.tmp 22) (.tmp 23)))]⟩,⟨none,[bN 25 14 24,ae 6 25]⟩]) <|
  .ret,
  [.tmp 6],26⟩
theorem uL:bK Tryz.prog 215 []=some p8:=by kernel_rfl
def uS:DC :=
  .seq (.seq (aw [ae 7 1,ae 8 0,aP 9 8,aR 10 .lss 7 9]) <|
  .cond (.tmp 10) (.skip) (.exit 0)) <|
  .block 1 (.seq (.seq (aw [ae 11 0,ae 12 1,ae 13 2,aL 14 215 [11,12,13]]) <|
  .cond (.tmp 14) (.seq (aw [ae 15 1,ae 16 2,((some 17),.op (.gP (.tmp 16))),aR 18 .add 15 17,ae 6 18]) <|
  .ret) (.skip)) <|
  aw [ae 19 1,ax 20 .add 19 1,ae 1 20])
def py:DF:=⟨.seq (aw [aH 6 0]) <|
  .seq (.block 0 (.loop uS)) <|
  .seq (aw [aH 6 (-1)]) <|
  .ret,
  [.tmp 6],21⟩
theorem tU:bK Tryz.prog 216 []=some py:=by kernel_rfl
def vi:DC :=
  .seq (.seq (.region [] [⟨none,[ae 5 1,ae 6 0,aP 7 6,aR 8 .lss 5 7,ae 9 8]⟩,⟨(some (9,true)),[ae 10 0,ae 11 1,aQ 12 1 10 11,an 13 12,((some 14),.op (.arith .neq (.tmp 13) (.val (.val (.int .u8 10)))))]⟩,⟨none,[bN 15 9 14]⟩]) <|
  .cond (.tmp 15) (.skip) (.exit 0)) <|
  .block 1 (aw [ae 16 1,ax 17 .add 16 1,ae 1 17])
def oT:DF:=⟨.seq (aw [aH 4 0]) <|
  .seq (.block 0 (.loop vi)) <|
  .seq (aw [ae 18 1,ae 4 18]) <|
  .ret,
  [.tmp 4],19⟩
theorem tL:bK Tryz.prog 217 []=some oT:=by kernel_rfl
def sQ:DC :=
  .seq (.seq (.region [] [⟨none,[ae 6 1,ax 7 .geq 6 0,ae 8 7]⟩,⟨(some (8,true)),[ae 9 1,ae 10 0,aP 11 10,aR 12 .lss 9 11]⟩,⟨none,[bN 13 8 12]⟩]) <|
  .cond (.tmp 13) (.skip) (.exit 0)) <|
  .block 1 (.seq (.seq (aw [ae 14 0,ae 15 1,aQ 16 1 14 15,an 17 16]) <|
  .block 2 (.seq (aw [((some 21),.op (.arith .eql (.tmp 17) (.val (.val (.int .u8 123))))),ae 20 21]) <|
  .cond (.tmp 20) (.seq (aw [ae 22 5,ax 23 .add 22 1,ae 5 23]) <|
  aw [ae 24 1,ax 25 .add 24 1,ae 1 25]) (.seq (aw [((some 27),.op (.arith .eql (.tmp 17) (.val (.val (.int .u8 125))))),ae 26 27]) <|
  .cond (.tmp 26) (.seq (aw [ae 28 5,ax 29 .sub 28 1,ae 5 29]) <|
  aw [ae 30 1,ax 31 .add 30 1,ae 1 31]) (.seq (.seq (aw [((some 33),.op (.arith .eql (.tmp 17) (.val (.val (.int .u8 39))))),ae 32 33]) <|
  .cond (.tmp 32) (.skip) (aw [((some 34),.op (.arith .eql (.tmp 17) (.val (.val (.int .u8 34))))),ae 32 34])) <|
  .cond (.tmp 32) (aw [ae 35 0,ae 36 1,aL 37 234 [35,36],ae 1 37]) (aw [ae 18 1,ax 19 .add 18 1,ae 1 19]))))) <|
  .seq (.region [] [⟨none,[ae 38 5,ax 39 .eql 38 0,ae 40 39]⟩,⟨(some (40,true)),[ae 41 1,ax 42 .geq 41 0]⟩,⟨none,[bN 43 40 42]⟩]) <|
  .cond (.tmp 43) (.seq (aw [ae 44 1,ae 4 44]) <|
  .ret) (.skip))
def mo:DF:=⟨.seq (aw [aH 4 0]) <|
  .seq (aw [aH 5 0]) <|
  .seq (.block 0 (.loop sQ)) <|
  .seq (aw [aH 4 (-1)]) <|
  .ret,
  [.tmp 4],45⟩
theorem rE:bK Tryz.prog 218 []=some mo:=by kernel_rfl
def sS:DC :=
  .seq (.seq (aw [ae 12 1,ae 13 0,aP 14 13,aR 15 .lss 12 14]) <|
  .cond (.tmp 15) (.skip) (.exit 0)) <|
  .block 1 (.seq (.seq (aw [ae 16 0,ae 17 1,aQ 18 1 16 17,an 19 18,ae 20 5,aR 21 .eql 19 20]) <|
  .cond (.tmp 21) (.seq (aw [ae 22 1,ax 23 .add 22 1,ae 4 23]) <|
  .ret) (.skip)) <|
  .seq (.seq (aw [ae 24 0,ae 25 1,aQ 26 1 24 25,an 27 26,((some 28),.op (.arith .eql (.tmp 27) (.val (.val (.int .u8 92)))))]) <|
  .cond (.tmp 28) (aw [ae 29 1,ax 30 .add 29 1,ae 1 30]) (.skip)) <|
  aw [ae 31 1,ax 32 .add 31 1,ae 1 32])
def m3:DF:=⟨.seq (aw [aH 4 0]) <|
  .seq (aw [ae 6 0,ae 7 1,aQ 8 1 6 7,an 9 8,ae 5 9]) <|
  .seq (aw [ae 10 1,ax 11 .add 10 1,ae 1 11]) <|
  .seq (.block 0 (.loop sS)) <|
  .seq (aw [aH 4 (-1)]) <|
  .ret,
  [.tmp 4],33⟩
theorem rH:bK Tryz.prog 234 []=some m3:=by kernel_rfl
def wU:DC :=
  .seq (.seq (aw [ae 16 7,ae 17 1,aR 18 .lss 16 17]) <|
  .cond (.tmp 18) (.skip) (.exit 0)) <|
  .seq (.block 1 (.seq (aw [ae 21 6,ax 22 .add 21 1,ae 6 22]) <|
  .seq (aw [ae 23 0,ae 24 7,aQ 25 1 23 24,an 26 25,((some 27),.op (.arith .eql (.tmp 26) (.val (.val (.int .u8 10)))))]) <|
  .cond (.tmp 27) (aw [ae 28 5,ax 29 .add 28 1,ae 5 29,aH 6 1]) (.skip))) <|
  aw [ae 19 7,ax 20 .add 19 1,ae 7 20]
def qO:DF:=⟨.seq (aw [((some 4),.op (.aZ (.val (.val (.complex .f64 0 0)))))]) <|
  .seq (.seq (.region [] [⟨none,[ae 8 1,ax 9 .lss 8 0,ae 10 9]⟩,⟨(some (10,false)),[ae 11 1,ae 12 0,aP 13 12,aR 14 .gtr 11 13]⟩,⟨none,[bH 15 10 14]⟩]) <|
  .cond (.tmp 15) (.seq (aw [((some 4),.op (.aZ (.val (.val (.complex .f64 0 0)))))]) <|
  .ret) (.skip)) <|
  .seq (aw [aH 5 1,aH 6 1]) <|
  .seq (.seq (aw [aH 7 0]) <|
  .block 0 (.loop wU)) <|
  .seq (aw [ae 30 5,ae 31 6,aL 32 219 [30,31],ae 4 32]) <|
  .ret,
  [.tmp 4],33⟩
theorem wz:bK Tryz.prog 177 []=some qO:=by kernel_rfl
def q7:DF:=⟨.seq (aw [((some 4),.op (.aZ (.val (.val (.complex .f64 0 0)))))]) <|
  .seq (.seq (.region [] [⟨none,[ae 5 0,ax 6 .lss 5 1,ae 7 6]⟩,⟨(some (7,false)),[ae 8 0,ax 9 .gtr 8 1073741824]⟩,⟨none,[bH 10 7 9,ae 11 10]⟩,⟨(some (11,false)),[ae 12 1,ax 13 .lss 12 1]⟩,⟨none,[bH 14 11 13,ae 15 14]⟩,⟨(some (15,false)),[ae 16 1,ax 17 .gtr 16 1073741824]⟩,⟨none,[bH 18 15 17]⟩]) <|
  .cond (.tmp 18) (.seq (aw [((some 4),.op (.aZ (.val (.val (.complex .f64 0 0)))))]) <|
  .ret) (.skip)) <|
  .seq (aw [ae 19 0,((some 20),.op (.old (.convert 3 311 (.tmp 19)) 311)),ae 21 1,((some 22),.op (.old (.convert 3 311 (.tmp 21)) 311)),((some 23),.op (.old (.call { callee:=.builtin .complex,args:=#[(.tmp 20),(.tmp 22)],argTypes:=#[311,311] }) 70)),ae 4 23]) <|
  .ret,
  [.tmp 4],24⟩
theorem wD:bK Tryz.prog 219 []=some q7:=by kernel_rfl
def wC:DC :=
  .seq (.seq (.region [] [⟨none,[ae 27 9,ae 28 0,aP 29 28,aR 30 .lss 27 29,ae 31 30]⟩,⟨(some (31,true)),[ae 32 0,ae 33 9,aQ 34 1 32 33,an 35 34,aL 36 193 [35]]⟩,⟨none,[bN 37 31 36]⟩]) <|
  .cond (.tmp 37) (.skip) (.exit 1)) <|
  .block 2 (aw [ae 38 9,ax 39 .add 38 1,ae 9 39])
def wo:DC :=
  .seq (.seq (aw [ae 58 10,ax 59 .leq 58 4]) <|
  .cond (.tmp 59) (.skip) (.exit 3)) <|
  .seq (.block 4 (.seq (.region [] [⟨none,[ae 62 1,ae 63 10,aR 64 .add 62 63,ae 65 0,aP 66 65,aR 67 .leq 64 66,ae 68 67]⟩,⟨(some (68,true)),[ae 69 0,ae 70 1,ae 71 1,ae 72 10,aR 73 .add 71 72,((some 74),.op (.slice 1 (.tmp 69) (some (.tmp 70)) (some (.tmp 73)))),((some 75),.op (.old (.convert 73 9 (.tmp 74)) 9)),aL 76 191 [75]]⟩,⟨none,[bN 77 68 76]⟩]) <|
  .cond (.tmp 77) (.seq (.region [(6,8)] [⟨none,[ae 78 0,ae 79 1,ae 80 1,ae 81 10,aR 82 .add 80 81,((some 83),.op (.slice 1 (.tmp 78) (some (.tmp 79)) (some (.tmp 82)))),((some 84),.op (.old (.convert 73 9 (.tmp 83)) 9)),aq 85 0 7,(none,.op (.store 1 (.tmp 85) (.val (.val (.int .i64 2))))),aq 86 1 7,(none,.op (.store 1 (.tmp 86) (.tmp 84)))]⟩]) <|
  .seq (aw [aT 87 3 7,ae 88 1,ae 89 10,aR 90 .add 88 89,(none,.op (.store 3 (.tmp 4) (.tmp 87))),ae 5 90,aH 6 0]) <|
  .ret) (.skip))) <|
  aw [ae 60 10,ax 61 .add 60 1,ae 10 61]
def wj:DC :=
  .seq (.seq (.region [] [⟨none,[ae 108 9,ae 109 0,aP 110 109,aR 111 .lss 108 110,ae 112 111]⟩,⟨(some (112,true)),[ae 113 0,ae 114 9,aQ 115 1 113 114,an 116 115,((some 117),.op (.arith .geq (.tmp 116) (.val (.val (.int .u8 97)))))]⟩,⟨none,[bN 118 112 117,ae 119 118]⟩,⟨(some (119,true)),[ae 120 0,ae 121 9,aQ 122 1 120 121,an 123 122,((some 124),.op (.arith .leq (.tmp 123) (.val (.val (.int .u8 122)))))]⟩,⟨none,[bN 125 119 124]⟩]) <|
  .cond (.tmp 125) (.skip) (.exit 5)) <|
  .block 6 (aw [ae 126 9,ax 127 .add 126 1,ae 9 127])
def pX:DF:=⟨.seq (.region [] [⟨none,[((some 4),.op (.alloc [(.val (.int .i64 0)),(.val (.string ⟨#[]⟩)),(.val (.complex .f64 0 0))])),aH 5 0,aH 6 0]⟩]) <|
  .seq (.region [] [⟨none,[ae 11 0,ae 12 1,aL 13 177 [11,12],((some 14),.op (.build [(.val (.int .i64 0)),(.val (.string ⟨#[]⟩)),(.val (.complex .f64 0 0))] [(2,1,(.tmp 13))])),((some 7),.op (.alloc [(.val (.int .i64 0)),(.val (.string ⟨#[]⟩)),(.val (.complex .f64 0 0))])),(none,.op (.store 3 (.tmp 7) (.tmp 14)))]⟩]) <|
  .seq (aw [ae 15 0,ae 16 1,aQ 17 1 15 16,an 18 17,ae 8 18]) <|
  .seq (aw [ae 19 1,ax 20 .add 19 1,ae 9 20]) <|
  .seq (.block 0 (.seq (aw [ae 25 8,aL 26 192 [25],ae 24 26]) <|
  .cond (.tmp 24) (.seq (.block 1 (.loop wC)) <|
  .seq (.seq (aw [ae 40 9,ae 41 1,aR 42 .sub 40 41,ax 43 .gtr 42 20]) <|
  .cond (.tmp 43) (.seq (aw [aT 44 3 7,ae 45 9,(none,.op (.store 3 (.tmp 4) (.tmp 44))),ae 5 45,aH 6 5]) <|
  .ret) (.skip)) <|
  .seq (.region [(4,6)] [⟨none,[ae 46 0,ae 47 1,ae 48 9,((some 49),.op (.slice 1 (.tmp 46) (some (.tmp 47)) (some (.tmp 48)))),((some 50),.op (.old (.convert 73 9 (.tmp 49)) 9)),aq 51 0 7,(none,.op (.store 1 (.tmp 51) (.val (.val (.int .i64 1))))),aq 52 1 7,(none,.op (.store 1 (.tmp 52) (.tmp 50)))]⟩]) <|
  .seq (aw [aT 53 3 7,ae 54 9,(none,.op (.store 3 (.tmp 4) (.tmp 53))),ae 5 54,aH 6 0]) <|
  .ret) (.seq (aw [ae 56 8,((some 57),.op (.arith .eql (.tmp 56) (.val (.val (.int .u8 39))))),ae 55 57]) <|
  .cond (.tmp 55) (.seq (.seq (aw [aH 10 3]) <|
  .block 3 (.loop wo)) <|
  .seq (.region [(0,5)] [⟨none,[aT 91 3 7,ae 92 9,ae 93 0,ae 94 1,((some 95),.op (.slice 1 (.tmp 93) (some (.tmp 94)) none)),aL 96 220 [95],(none,.op (.store 3 (.tmp 4) (.tmp 91))),ae 5 92,ae 6 96]⟩]) <|
  .ret) (.seq (.region [] [⟨none,[ae 98 0,ae 99 1,cL 100 215 [(.tmp 98),(.tmp 99),(.val (.val (.string ⟨#[37,37]⟩)))],ae 97 100]⟩]) <|
  .cond (.tmp 97) (.seq (aw [aq 101 0 7,(none,.op (.store 1 (.tmp 101) (.val (.val (.int .i64 9)))))]) <|
  .seq (aw [aT 102 3 7,ae 103 1,ax 104 .add 103 2,(none,.op (.store 3 (.tmp 4) (.tmp 102))),ae 5 104,aH 6 0]) <|
  .ret) (.seq (aw [ae 106 8,((some 107),.op (.arith .eql (.tmp 106) (.val (.val (.int .u8 37))))),ae 105 107]) <|
  .cond (.tmp 105) (.seq (.block 5 (.loop wj)) <|
  aw [ae 128 0,ae 129 1,ax 130 .add 129 1,ae 131 9,((some 132),.op (.slice 1 (.tmp 128) (some (.tmp 130)) (some (.tmp 131)))),((some 133),.op (.old (.convert 73 9 (.tmp 132)) 9)),aL 134 221 [133],aq 135 0 7,(none,.op (.store 1 (.tmp 135) (.tmp 134)))]) (aw [ae 21 8,aL 22 222 [21],aq 23 0 7,(none,.op (.store 1 (.tmp 23) (.tmp 22)))])))))) <|
  .seq (.seq (aw [aq 136 0 7,an 137 136,ax 138 .eql 137 0]) <|
  .cond (.tmp 138) (.seq (aw [aT 139 3 7,ae 140 9,(none,.op (.store 3 (.tmp 4) (.tmp 139))),ae 5 140,aH 6 3]) <|
  .ret) (.skip)) <|
  .seq (aw [aT 141 3 7,ae 142 9,(none,.op (.store 3 (.tmp 4) (.tmp 141))),ae 5 142,aH 6 0]) <|
  .ret,
  [.cell 4 (some 3),.tmp 5,.tmp 6],143⟩
theorem vB:bK Tryz.prog 178 []=some pX:=by kernel_rfl
def nH:DF:=⟨.seq (aw [bg 2 false]) <|
  .seq (.region [] [⟨none,[ae 3 0,aL 4 192 [3],ae 5 4]⟩,⟨(some (5,false)),[ae 6 0,((some 7),.op (.arith .geq (.tmp 6) (.val (.val (.int .u8 48))))),ae 8 7]⟩,⟨(some (8,true)),[ae 9 0,((some 10),.op (.arith .leq (.tmp 9) (.val (.val (.int .u8 57)))))]⟩,⟨(some (5,false)),[bN 11 8 10]⟩,⟨none,[bH 12 5 11,ae 13 12]⟩,⟨(some (13,false)),[ae 14 0,((some 15),.op (.arith .eql (.tmp 14) (.val (.val (.int .u8 46)))))]⟩,⟨none,[bH 16 13 15,ae 2 16]⟩]) <|
  .ret,
  [.tmp 2],17⟩
theorem s7:bK Tryz.prog 193 []=some nH:=by kernel_rfl
def np:DF:=⟨.seq (aw [bg 2 false]) <|
  .seq (.region [] [⟨none,[ae 3 0,((some 4),.op (.arith .geq (.tmp 3) (.val (.val (.int .u8 97))))),ae 5 4]⟩,⟨(some (5,true)),[ae 6 0,((some 7),.op (.arith .leq (.tmp 6) (.val (.val (.int .u8 122)))))]⟩,⟨none,[bN 8 5 7,ae 9 8]⟩,⟨(some (9,false)),[ae 10 0,((some 11),.op (.arith .geq (.tmp 10) (.val (.val (.int .u8 65))))),ae 12 11]⟩,⟨(some (12,true)),[ae 13 0,((some 14),.op (.arith .leq (.tmp 13) (.val (.val (.int .u8 90)))))]⟩,⟨(some (9,false)),[bN 15 12 14]⟩,⟨none,[bH 16 9 15,ae 17 16]⟩,⟨(some (17,false)),[ae 18 0,((some 19),.op (.arith .eql (.tmp 18) (.val (.val (.int .u8 95)))))]⟩,⟨none,[bH 20 17 19,ae 2 20]⟩]) <|
  .ret,
  [.tmp 2],21⟩
theorem sZ:bK Tryz.prog 192 []=some np:=by kernel_rfl
def l5:DF:=⟨.seq (aw [bg 2 false]) <|
  .seq (.seq (aw [ae 3 0,((some 4),.op (.gP (.tmp 3))),ax 5 .eql 4 3]) <|
  .cond (.tmp 5) (.seq (.region [] [⟨none,[ae 6 0,((some 7),.op (.dq (.tmp 6) (.val (.val (.int .i64 0))))),((some 8),.op (.arith .eql (.tmp 7) (.val (.val (.int .u8 39))))),ae 9 8]⟩,⟨(some (9,true)),[ae 10 0,((some 11),.op (.dq (.tmp 10) (.val (.val (.int .i64 2))))),((some 12),.op (.arith .eql (.tmp 11) (.val (.val (.int .u8 39)))))]⟩,⟨none,[bN 13 9 12,ae 14 13]⟩,⟨(some (14,true)),[ae 15 0,((some 16),.op (.dq (.tmp 15) (.val (.val (.int .i64 1))))),((some 17),.op (.arith .geq (.tmp 16) (.val (.val (.int .u8 32)))))]⟩,⟨none,[bN 18 14 17,ae 19 18]⟩,⟨(some (19,true)),[ae 20 0,((some 21),.op (.dq (.tmp 20) (.val (.val (.int .i64 1))))),((some 22),.op (.arith .leq (.tmp 21) (.val (.val (.int .u8 126)))))]⟩,⟨none,[bN 23 19 22,ae 24 23]⟩,⟨(some (24,true)),[ae 25 0,((some 26),.op (.dq (.tmp 25) (.val (.val (.int .i64 1))))),((some 27),.op (.arith .neq (.tmp 26) (.val (.val (.int .u8 39)))))]⟩,⟨none,[bN 28 24 27,ae 29 28]⟩,⟨(some (29,true)),[ae 30 0,((some 31),.op (.dq (.tmp 30) (.val (.val (.int .i64 1))))),((some 32),.op (.arith .neq (.tmp 31) (.val (.val (.int .u8 92)))))]⟩,⟨none,[bN 33 29 32,ae 2 33]⟩]) <|
  .ret) (.skip)) <|
  .seq (.region [] [⟨none,[ae 34 0,((some 35),.op (.gP (.tmp 34))),ax 36 .eql 35 4,ae 37 36]⟩,⟨(some (37,true)),[ae 38 0,((some 39),.op (.dq (.tmp 38) (.val (.val (.int .i64 0))))),((some 40),.op (.arith .eql (.tmp 39) (.val (.val (.int .u8 39)))))]⟩,⟨none,[bN 41 37 40,ae 42 41]⟩,⟨(some (42,true)),[ae 43 0,((some 44),.op (.dq (.tmp 43) (.val (.val (.int .i64 3))))),((some 45),.op (.arith .eql (.tmp 44) (.val (.val (.int .u8 39)))))]⟩,⟨none,[bN 46 42 45,ae 47 46]⟩,⟨(some (47,true)),[ae 48 0,((some 49),.op (.dq (.tmp 48) (.val (.val (.int .i64 1))))),((some 50),.op (.arith .eql (.tmp 49) (.val (.val (.int .u8 92)))))]⟩,⟨none,[bN 51 47 50,ae 52 51]⟩,⟨(some (52,true)),[ae 53 0,((some 54),.op (.dq (.tmp 53) (.val (.val (.int .i64 2))))),((some 55),.op (.arith .eql (.tmp 54) (.val (.val (.int .u8 110))))),ae 56 55]⟩,⟨(some (56,false)),[ae 57 0,((some 58),.op (.dq (.tmp 57) (.val (.val (.int .i64 2))))),((some 59),.op (.arith .eql (.tmp 58) (.val (.val (.int .u8 116)))))]⟩,⟨(some (52,true)),[bH 60 56 59,ae 61 60]⟩,⟨(some (61,false)),[ae 62 0,((some 63),.op (.dq (.tmp 62) (.val (.val (.int .i64 2))))),((some 64),.op (.arith .eql (.tmp 63) (.val (.val (.int .u8 92)))))]⟩,⟨(some (52,true)),[bH 65 61 64,ae 66 65]⟩,⟨(some (66,false)),[ae 67 0,((some 68),.op (.dq (.tmp 67) (.val (.val (.int .i64 2))))),((some 69),.op (.arith .eql (.tmp 68) (.val (.val (.int .u8 39)))))]⟩,⟨(some (52,true)),[bH 70 66 69]⟩,⟨none,[bN 71 52 70,ae 2 71]⟩]) <|
  .ret,
  [.tmp 2],72⟩
theorem rz:bK Tryz.prog 191 []=some l5:=by kernel_rfl
def rG:DC :=
  .seq (.seq (aw [ae 6 4,ae 7 3,aP 8 7,aR 9 .lss 6 8]) <|
  .cond (.tmp 9) (.skip) (.exit 0)) <|
  .seq (.block 1 (.seq (.region [(5,9)] [⟨none,[ae 12 0,aP 13 12,ax 14 .lss 13 4,ae 15 14]⟩,⟨(some (15,true)),[ae 16 0,((some 17),.op (.old (.convert 73 9 (.tmp 16)) 9)),ae 18 3,ae 19 4,aQ 20 1 18 19,an 21 20,((some 22),.op (.iN .add (.tmp 17) (.tmp 21))),aL 23 191 [22]]⟩,⟨none,[bN 24 15 23]⟩]) <|
  .cond (.tmp 24) (.seq (aw [aH 2 4]) <|
  .ret) (.skip))) <|
  aw [ae 10 4,ax 11 .add 10 1,ae 4 11]
def lz:DF:=⟨.seq (aw [aH 2 0]) <|
  .seq (.region [] [⟨none,[((some 5),.op (.bA 5 1 [(.val (.string ⟨#[]⟩))] [(0,(.val (.val (.string ⟨#[120,39]⟩)))),(1,(.val (.val (.string ⟨#[39]⟩)))),(2,(.val (.val (.string ⟨#[92,110,39]⟩)))),(3,(.val (.val (.string ⟨#[110,39]⟩)))),(4,(.val (.val (.string ⟨#[92,39,39]⟩))))])),ae 3 5]⟩]) <|
  .seq (.seq (aw [aH 4 0]) <|
  .block 0 (.loop rG)) <|
  .seq (aw [aH 2 3]) <|
  .ret,
  [.tmp 2],25⟩
theorem qT:bK Tryz.prog 220 []=some lz:=by kernel_rfl
def lS:DF:=⟨.seq (aw [aH 2 0]) <|
  .seq (.seq (aw [ae 3 0]) <|
  .block 0 (.seq (.region [] [⟨none,[((some 5),.op (.iN .eql (.tmp 3) (.val (.val (.string ⟨#[116,111,107,101,110]⟩))))),ae 4 5]⟩]) <|
  .cond (.tmp 4) (.seq (aw [aH 2 3]) <|
  .ret) (.seq (.region [] [⟨none,[((some 7),.op (.iN .eql (.tmp 3) (.val (.val (.string ⟨#[108,101,102,116]⟩))))),ae 6 7]⟩]) <|
  .cond (.tmp 6) (.seq (aw [aH 2 4]) <|
  .ret) (.seq (.region [] [⟨none,[((some 9),.op (.iN .eql (.tmp 3) (.val (.val (.string ⟨#[114,105,103,104,116]⟩))))),ae 8 9]⟩]) <|
  .cond (.tmp 8) (.seq (aw [aH 2 5]) <|
  .ret) (.seq (.region [] [⟨none,[((some 11),.op (.iN .eql (.tmp 3) (.val (.val (.string ⟨#[110,111,110,97,115,115,111,99]⟩))))),ae 10 11]⟩]) <|
  .cond (.tmp 10) (.seq (aw [aH 2 6]) <|
  .ret) (.seq (.region [] [⟨none,[((some 13),.op (.iN .eql (.tmp 3) (.val (.val (.string ⟨#[115,116,97,114,116]⟩))))),ae 12 13]⟩]) <|
  .cond (.tmp 12) (.seq (aw [aH 2 7]) <|
  .ret) (.seq (.region [] [⟨none,[((some 15),.op (.iN .eql (.tmp 3) (.val (.val (.string ⟨#[112,114,101,99]⟩))))),ae 14 15]⟩]) <|
  .cond (.tmp 14) (.seq (aw [aH 2 8]) <|
  .ret) (.skip)))))))) <|
  .seq (aw [aH 2 0]) <|
  .ret,
  [.tmp 2],16⟩
theorem ra:bK Tryz.prog 221 []=some lS:=by kernel_rfl
def o8:DF:=⟨.seq (aw [aH 2 0]) <|
  .seq (.seq (aw [ae 3 0]) <|
  .block 0 (.seq (aw [((some 5),.op (.arith .eql (.tmp 3) (.val (.val (.int .u8 58))))),ae 4 5]) <|
  .cond (.tmp 4) (.seq (aw [aH 2 10]) <|
  .ret) (.seq (aw [((some 7),.op (.arith .eql (.tmp 3) (.val (.val (.int .u8 124))))),ae 6 7]) <|
  .cond (.tmp 6) (.seq (aw [aH 2 11]) <|
  .ret) (.seq (aw [((some 9),.op (.arith .eql (.tmp 3) (.val (.val (.int .u8 59))))),ae 8 9]) <|
  .cond (.tmp 8) (.seq (aw [aH 2 12]) <|
  .ret) (.skip))))) <|
  .seq (aw [aH 2 0]) <|
  .ret,
  [.tmp 2],10⟩
theorem uq:bK Tryz.prog 222 []=some o8:=by kernel_rfl
def xd:DC :=
  .seq (.seq (.region [] [⟨none,[ae 21 7,bJ 22 21,aq 23 3 22,an 24 23,ax 25 .eql 24 0,ae 26 25]⟩,⟨(some (26,true)),[ae 27 7,bJ 28 27,aq 29 0 28,an 30 29,aP 31 30,ax 32 .gtr 31 0]⟩,⟨none,[bN 33 26 32,ae 34 33]⟩,⟨(some (34,true)),[ae 35 7,aL 36 182 [35],ax 37 .neq 36 9]⟩,⟨none,[bN 38 34 37]⟩]) <|
  .cond (.tmp 38) (.skip) (.exit 0)) <|
  .block 1 (.region [(1,3)] [⟨none,[aq 39 1 8,an 40 39,ae 41 7,aL 42 181 [41],((some 43),.op (.app 5 88 (.tmp 40) (.tmp 42))),aq 44 1 8,(none,.op (.store 1 (.tmp 44) (.tmp 43)))]⟩])
def rr:DF:=⟨.seq (aw [((some 4),.op (.alloc [(.emp 1),(.emp 1)])),((some 5),.op (.aZ (.val (.val (.complex .f64 0 0))))),aH 6 0]) <|
  .seq (aw [ae 9 0,ae 10 1,((some 11),.op (.build [(.emp 1),(.val (.complex .f64 0 0)),(.val (.complex .f64 0 0)),(.val (.int .i64 0))] [(0,1,(.tmp 9)),(1,1,(.tmp 10))])),((some 12),.op (.box (.tmp 11))),ae 7 12]) <|
  .seq (aw [ae 13 7,aL 14 179 [13],((some 15),.op (.build [(.emp 1),(.emp 1)] [(0,1,(.tmp 14))])),((some 8),.op (.alloc [(.emp 1),(.emp 1)])),(none,.op (.store 2 (.tmp 8) (.tmp 15)))]) <|
  .seq (aw [ae 16 7,cL 17 180 [(.tmp 16),(.val (.val (.int .i64 9))),(.val (.val (.int .i64 9)))]]) <|
  .seq (aw [ae 18 7,aL 19 181 [18],aq 20 1 8,(none,.op (.store 1 (.tmp 20) (.tmp 19)))]) <|
  .seq (.block 0 (.loop xd)) <|
  .seq (.seq (.region [] [⟨none,[ae 45 7,bJ 46 45,aq 47 3 46,an 48 47,ax 49 .eql 48 0,ae 50 49]⟩,⟨(some (50,true)),[ae 51 7,bJ 52 51,aq 53 0 52,an 54 53,aP 55 54,ax 56 .gtr 55 0]⟩,⟨none,[bN 57 50 56]⟩]) <|
  .cond (.tmp 57) (aw [ae 58 7,cL 59 180 [(.tmp 58),(.val (.val (.int .i64 9))),(.val (.val (.int .i64 9)))]]) (.skip)) <|
  .seq (.seq (aw [ae 60 7,bJ 61 60,aq 62 0 61,an 63 62,aP 64 63,ax 65 .gtr 64 0]) <|
  .cond (.tmp 65) (aw [ae 66 7,aL 67 183 [66]]) (.skip)) <|
  .seq (.seq (aw [ae 68 7,bJ 69 68,aq 70 3 69,an 71 70,ax 72 .neq 71 0]) <|
  .cond (.tmp 72) (.seq (.region [(4,9),(8,9)] [⟨none,[((some 73),.op (.build [(.emp 1),(.emp 1)] [])),ae 74 7,bJ 75 74,aq 76 2 75,an 77 76,ae 78 7,bJ 79 78,aq 80 3 79,an 81 80,(none,.op (.store 2 (.tmp 4) (.tmp 73))),ae 5 77,ae 6 81]⟩]) <|
  .ret) (.skip)) <|
  .seq (aw [aT 82 2 8,(none,.op (.store 2 (.tmp 4) (.tmp 82))),((some 5),.op (.aZ (.val (.val (.complex .f64 0 0))))),aH 6 0]) <|
  .ret,
  [.cell 4 (some 2),.tmp 5,.tmp 6],83⟩
theorem wE:bK Tryz.prog 121 []=some rr:=by kernel_rfl
def jk:DF:=⟨.seq (aw [aH 2 0]) <|
  .seq (.seq (.region [] [⟨none,[ae 3 0,bJ 4 3,aq 5 3 4,an 6 5,ax 7 .neq 6 0,ae 8 7]⟩,⟨(some (8,false)),[ae 9 0,bJ 10 9,aq 11 0 10,an 12 11,aP 13 12,ax 14 .eql 13 0]⟩,⟨none,[bH 15 8 14]⟩]) <|
  .cond (.tmp 15) (.seq (aw [aH 2 0]) <|
  .ret) (.skip)) <|
  .seq (aw [ae 16 0,bJ 17 16,aq 18 0 17,an 19 18,((some 20),.op (.idx 3 (.tmp 19) (.val (.val (.int .i64 0))))),aq 21 0 20,an 22 21,ae 2 22]) <|
  .ret,
  [.tmp 2],23⟩
theorem nR:bK Tryz.prog 182 []=some jk:=by kernel_rfl
def nO:DC :=
  .seq (.seq (aw [ae 10 0,bJ 11 10,aq 12 3 11,an 13 12,ax 14 .eql 13 0]) <|
  .cond (.tmp 14) (.skip) (.exit 0)) <|
  .block 1 (.seq (.region [(0,2),(2,4)] [⟨none,[aT 15 2 4,ae 16 0,aL 17 223 [16],((some 18),.op (.build [(.val (.string ⟨#[]⟩)),(.val (.complex .f64 0 0)),(.emp 1),(.val (.string ⟨#[]⟩)),(.val (.complex .f64 0 0))] [(0,2,(.tmp 15)),(2,1,(.tmp 17))])),((some 5),.op (.alloc [(.val (.string ⟨#[]⟩)),(.val (.complex .f64 0 0)),(.emp 1),(.val (.string ⟨#[]⟩)),(.val (.complex .f64 0 0))])),(none,.op (.store 5 (.tmp 5) (.tmp 18)))]⟩]) <|
  .seq (.seq (aw [ae 19 0,cL 20 224 [(.tmp 19),(.val (.val (.int .i64 8))),(.val (.val (.int .i64 8)))]]) <|
  .cond (.tmp 20) (.seq (aw [ae 21 0,cL 22 180 [(.tmp 21),(.val (.val (.int .i64 8))),(.val (.val (.int .i64 8)))]]) <|
  aw [ae 23 0,cL 24 180 [(.tmp 23),(.val (.val (.int .i64 1))),(.val (.val (.int .i64 2)))],aq 25 3 5,(none,.op (.store 2 (.tmp 25) (.tmp 24)))]) (.skip)) <|
  .seq (.region [] [⟨none,[ae 26 3,aT 27 5 5,((some 28),.op (.bA 1 5 [(.val (.string ⟨#[]⟩)),(.val (.complex .f64 0 0)),(.emp 1),(.val (.string ⟨#[]⟩)),(.val (.complex .f64 0 0))] [(0,(.tmp 27))])),((some 29),.op (.app 5 88 (.tmp 26) (.tmp 28))),ae 3 29]⟩]) <|
  .seq (.seq (aw [ae 30 0,cL 31 224 [(.tmp 30),(.val (.val (.int .i64 11))),(.val (.val (.int .i64 11)))],cd 32 31]) <|
  .cond (.tmp 32) (.seq (aw [ae 33 0,cL 34 180 [(.tmp 33),(.val (.val (.int .i64 12))),(.val (.val (.int .i64 12)))]]) <|
  .seq (aw [ae 35 3,ae 2 35]) <|
  .ret) (.skip)) <|
  aw [ae 36 0,cL 37 180 [(.tmp 36),(.val (.val (.int .i64 11))),(.val (.val (.int .i64 11)))]])
def iL:DF:=⟨.seq (aw [((some 2),.op (.aZ (.val (.emp 1))))]) <|
  .seq (aw [((some 3),.op (.aZ (.val (.emp 1))))]) <|
  .seq (.region [] [⟨none,[ae 6 0,cL 7 180 [(.tmp 6),(.val (.val (.int .i64 1))),(.val (.val (.int .i64 1)))],((some 4),.op (.alloc [(.val (.string ⟨#[]⟩)),(.val (.complex .f64 0 0))])),(none,.op (.store 2 (.tmp 4) (.tmp 7)))]⟩]) <|
  .seq (aw [ae 8 0,cL 9 180 [(.tmp 8),(.val (.val (.int .i64 10))),(.val (.val (.int .i64 10)))]]) <|
  .seq (.block 0 (.loop nO)) <|
  .seq (aw [ae 38 3,ae 2 38]) <|
  .ret,
  [.tmp 2],39⟩
theorem nb:bK Tryz.prog 181 []=some iL:=by kernel_rfl
def px:DC :=
  .seq (.seq (aw [ae 4 0,cL 5 224 [(.tmp 4),(.val (.val (.int .i64 1))),(.val (.val (.int .i64 2)))]]) <|
  .cond (.tmp 5) (.skip) (.exit 0)) <|
  .block 1 (.region [] [⟨none,[ae 6 3,ae 7 0,cL 8 180 [(.tmp 7),(.val (.val (.int .i64 1))),(.val (.val (.int .i64 2)))],((some 9),.op (.bA 1 2 [(.val (.string ⟨#[]⟩)),(.val (.complex .f64 0 0))] [(0,(.tmp 8))])),((some 10),.op (.app 2 32 (.tmp 6) (.tmp 9))),ae 3 10]⟩])
def ji:DF:=⟨.seq (aw [((some 2),.op (.aZ (.val (.emp 1))))]) <|
  .seq (aw [((some 3),.op (.aZ (.val (.emp 1))))]) <|
  .seq (.block 0 (.loop px)) <|
  .seq (aw [ae 11 3,ae 2 11]) <|
  .ret,
  [.tmp 2],12⟩
theorem nS:bK Tryz.prog 223 []=some ji:=by kernel_rfl
def kC:DF:=⟨.seq (aw [bg 6 false]) <|
  .seq (.region [] [⟨none,[ae 7 0,bJ 8 7,aq 9 0 8,an 10 9,aP 11 10,ax 12 .gtr 11 0,ae 13 12]⟩,⟨(some (13,true)),[ae 14 0,aL 15 182 [14],ae 16 1,aR 17 .eql 15 16,ae 18 17]⟩,⟨(some (18,false)),[ae 19 0,aL 20 182 [19],ae 21 2,aR 22 .eql 20 21]⟩,⟨(some (13,true)),[bH 23 18 22]⟩,⟨none,[bN 24 13 23,ae 6 24]⟩]) <|
  .ret,
  [.tmp 6],25⟩
theorem pL:bK Tryz.prog 224 []=some kC:=by kernel_rfl
def jx:DF:=⟨.seq (.region [] [⟨none,[((some 6),.op (.alloc [(.val (.string ⟨#[]⟩)),(.val (.complex .f64 0 0))]))]⟩]) <|
  .seq (.seq (.region [] [⟨none,[ae 8 0,bJ 9 8,aq 10 3 9,an 11 10,ax 12 .neq 11 0,ae 13 12]⟩,⟨(some (13,false)),[ae 14 0,ae 15 1,ae 16 2,aL 17 224 [14,15,16],cd 18 17]⟩,⟨none,[bH 19 13 18]⟩]) <|
  .cond (.tmp 19) (.seq (aw [ae 20 0,aL 21 183 [20]]) <|
  .seq (.region [] [⟨none,[((some 22),.op (.build [(.val (.string ⟨#[]⟩)),(.val (.complex .f64 0 0))] [])),(none,.op (.store 2 (.tmp 6) (.tmp 22)))]⟩]) <|
  .ret) (.skip)) <|
  .seq (.region [] [⟨none,[ae 23 0,bJ 24 23,aq 25 0 24,an 26 25,((some 27),.op (.idx 3 (.tmp 26) (.val (.val (.int .i64 0))))),aT 28 3 27,((some 7),.op (.alloc [(.val (.int .i64 0)),(.val (.string ⟨#[]⟩)),(.val (.complex .f64 0 0))])),(none,.op (.store 3 (.tmp 7) (.tmp 28)))]⟩]) <|
  .seq (aw [ae 29 0,ae 30 0,bJ 31 30,aq 32 0 31,an 33 32,((some 34),.op (.slice 3 (.tmp 33) (some (.val (.val (.int .i64 1)))) none)),bJ 35 29,aq 36 0 35,(none,.op (.store 1 (.tmp 36) (.tmp 34)))]) <|
  .seq (.region [] [⟨none,[aq 37 1 7,an 38 37,aq 39 2 7,an 40 39,((some 41),.op (.build [(.val (.string ⟨#[]⟩)),(.val (.complex .f64 0 0))] [(0,1,(.tmp 38)),(1,1,(.tmp 40))])),(none,.op (.store 2 (.tmp 6) (.tmp 41)))]⟩]) <|
  .ret,
  [.cell 6 (some 2)],42⟩
theorem ou:bK Tryz.prog 180 []=some jx:=by kernel_rfl
def jj:DF:=⟨.seq (.seq (aw [ae 2 0,bJ 3 2,aq 4 3 3,an 5 4,ax 6 .neq 5 0]) <|
  .cond (.tmp 6) (.ret) (.skip)) <|
  .seq (aw [ae 7 0,ae 8 0,ae 9 0,bJ 10 9,aq 11 1 10,an 12 11,bJ 13 7,aq 14 2 13,(none,.op (.store 1 (.tmp 14) (.tmp 12))),bJ 15 8,aq 16 3 15,(none,.op (.store 1 (.tmp 16) (.val (.val (.int .i64 4)))))]) <|
  .seq (aw [ae 17 0,bJ 18 17,aq 19 0 18,an 20 19,aP 21 20,ax 22 .gtr 21 0]) <|
  .cond (.tmp 22) (aw [ae 23 0,ae 24 0,ae 25 0,bJ 26 25,aq 27 0 26,an 28 27,((some 29),.op (.idx 3 (.tmp 28) (.val (.val (.int .i64 0))))),aq 30 2 29,an 31 30,bJ 32 23,aq 33 2 32,(none,.op (.store 1 (.tmp 33) (.tmp 31))),bJ 34 24,aq 35 3 34,(none,.op (.store 1 (.tmp 35) (.val (.val (.int .i64 3)))))]) (.skip),
  [],36⟩
theorem nV:bK Tryz.prog 183 []=some jj:=by kernel_rfl
def ow:DC :=
  .seq (.seq (.region [] [⟨none,[ae 6 0,bJ 7 6,aq 8 3 7,an 9 8,ax 10 .eql 9 0,ae 11 10]⟩,⟨(some (11,true)),[ae 12 0,bJ 13 12,aq 14 0 13,an 15 14,aP 16 15,ax 17 .gtr 16 0]⟩,⟨none,[bN 18 11 17,ae 19 18]⟩,⟨(some (19,true)),[ae 20 0,aL 21 182 [20],ax 22 .neq 21 9]⟩,⟨none,[bN 23 19 22]⟩]) <|
  .cond (.tmp 23) (.skip) (.exit 0)) <|
  .block 1 (.seq (aw [ae 24 0,aL 25 182 [24],ae 4 25]) <|
  .seq (.seq (aw [ae 26 4,ax 27 .eql 26 7]) <|
  .cond (.tmp 27) (.seq (aw [ae 28 0,ae 29 4,ae 30 4,aL 31 180 [28,29,30]]) <|
  .seq (.region [] [⟨none,[ae 32 3,ae 33 4,ae 34 0,cL 35 180 [(.tmp 34),(.val (.val (.int .i64 1))),(.val (.val (.int .i64 1)))],((some 36),.op (.bA 1 2 [(.val (.string ⟨#[]⟩)),(.val (.complex .f64 0 0))] [(0,(.tmp 35))])),((some 37),.op (.build [(.val (.int .i64 0)),(.emp 1)] [(0,1,(.tmp 33)),(1,1,(.tmp 36))])),((some 38),.op (.bA 1 2 [(.val (.int .i64 0)),(.emp 1)] [(0,(.tmp 37))])),((some 39),.op (.app 2 32 (.tmp 32) (.tmp 38))),ae 3 39]⟩]) <|
  .exit 1) (.skip)) <|
  .seq (.seq (.region [] [⟨none,[ae 40 4,ax 41 .neq 40 3,ae 42 41]⟩,⟨(some (42,true)),[ae 43 4,ax 44 .neq 43 4]⟩,⟨none,[bN 45 42 44,ae 46 45]⟩,⟨(some (46,true)),[ae 47 4,ax 48 .neq 47 5]⟩,⟨none,[bN 49 46 48,ae 50 49]⟩,⟨(some (50,true)),[ae 51 4,ax 52 .neq 51 6]⟩,⟨none,[bN 53 50 52]⟩]) <|
  .cond (.tmp 53) (.seq (aw [ae 54 0,aL 55 183 [54]]) <|
  .exit 1) (.skip)) <|
  .seq (aw [ae 56 0,ae 57 4,ae 58 4,aL 59 180 [56,57,58]]) <|
  .seq (.region [] [⟨none,[ae 60 0,cL 61 180 [(.tmp 60),(.val (.val (.int .i64 1))),(.val (.val (.int .i64 2)))],((some 5),.op (.alloc [(.val (.string ⟨#[]⟩)),(.val (.complex .f64 0 0))])),(none,.op (.store 2 (.tmp 5) (.tmp 61)))]⟩]) <|
  .region [(2,5),(3,5)] [⟨none,[ae 62 3,ae 63 4,aT 64 2 5,((some 65),.op (.bA 1 2 [(.val (.string ⟨#[]⟩)),(.val (.complex .f64 0 0))] [(0,(.tmp 64))])),ae 66 0,aL 67 223 [66],((some 68),.op (.app 2 32 (.tmp 65) (.tmp 67))),((some 69),.op (.build [(.val (.int .i64 0)),(.emp 1)] [(0,1,(.tmp 63)),(1,1,(.tmp 68))])),((some 70),.op (.bA 1 2 [(.val (.int .i64 0)),(.emp 1)] [(0,(.tmp 69))])),((some 71),.op (.app 2 32 (.tmp 62) (.tmp 70))),ae 3 71]⟩])
def iK:DF:=⟨.seq (aw [((some 2),.op (.aZ (.val (.emp 1))))]) <|
  .seq (aw [((some 3),.op (.aZ (.val (.emp 1))))]) <|
  .seq (.block 0 (.loop ow)) <|
  .seq (aw [ae 72 3,ae 2 72]) <|
  .ret,
  [.tmp 2],73⟩
theorem m8:bK Tryz.prog 179 []=some iK:=by kernel_rfl
def tN:DC :=
  .seq (.seq (.region [] [⟨none,[ae 17 6,aq 18 1 1,an 19 18,aP 20 19,aR 21 .lss 17 20,ae 22 21]⟩,⟨(some (22,true)),[ae 23 5,bJ 24 23,aq 25 10 24,an 26 25,ax 27 .eql 26 0]⟩,⟨none,[bN 28 22 27]⟩]) <|
  .cond (.tmp 28) (.skip) (.exit 0)) <|
  .seq (.block 1 (aw [ae 31 5,aq 32 1 1,an 33 32,ae 34 6,aQ 35 5 33 34,aT 36 5 35,aL 37 124 [31,36]])) <|
  aw [ae 29 6,ax 30 .add 29 1,ae 6 30]
def nz:DF:=⟨.seq (aw [cx 1 0,((some 2),.op (.alloc [(.emp 1),(.emp 1),(.emp 1),(.val (.int .i64 0))])),((some 3),.op (.aZ (.val (.val (.complex .f64 0 0))))),aH 4 0]) <|
  .seq (.region [] [⟨none,[((some 7),.op (.build [(.emp 1),(.emp 1),(.emp 1),(.val (.int .i64 0)),(.emp 1),(.val (.string ⟨#[]⟩)),(.val (.complex .f64 0 0)),(.val (.bool false)),(.val (.int .i64 0)),(.val (.complex .f64 0 0)),(.val (.int .i64 0))] [])),((some 8),.op (.box (.tmp 7))),ae 5 8]⟩]) <|
  .seq (aw [ae 9 5,aq 10 0 1,an 11 10,aL 12 122 [9,11]]) <|
  .seq (aw [ae 13 5,aq 14 1 1,an 15 14,aL 16 123 [13,15]]) <|
  .seq (.seq (aw [aH 6 0]) <|
  .block 0 (.loop tN)) <|
  .seq (.seq (.region [] [⟨none,[ae 38 5,bJ 39 38,aq 40 7 39,an 41 40,ae 42 41]⟩,⟨(some (42,true)),[ae 43 5,bJ 44 43,aq 45 0 44,aT 46 4 45,ae 47 5,bJ 48 47,aq 49 5 48,aq 50 0 49,an 51 50,aL 52 125 [46,51],ax 53 .lss 52 0]⟩,⟨none,[bN 54 42 53]⟩]) <|
  .cond (.tmp 54) (aw [ae 55 5,ae 56 5,bJ 57 56,aq 58 5 57,aT 59 2 58,cL 60 126 [(.tmp 55),(.tmp 59),(.val (.val (.int .i64 8)))]]) (.skip)) <|
  .seq (.seq (aw [aq 61 1 1,an 62 61,aP 63 62,ax 64 .eql 63 0]) <|
  .cond (.tmp 64) (.region [] [⟨none,[ae 65 5,((some 66),.op (.build [(.val (.string ⟨#[]⟩)),(.val (.complex .f64 0 0))] [])),cL 67 126 [(.tmp 65),(.tmp 66),(.val (.val (.int .i64 8)))]]⟩]) (.skip)) <|
  .seq (.seq (aw [ae 68 5,bJ 69 68,aq 70 10 69,an 71 70,ax 72 .neq 71 0]) <|
  .cond (.tmp 72) (.seq (.region [(4,9),(8,9)] [⟨none,[((some 73),.op (.build [(.emp 1),(.emp 1),(.emp 1),(.val (.int .i64 0))] [])),ae 74 5,bJ 75 74,aq 76 9 75,an 77 76,ae 78 5,bJ 79 78,aq 80 10 79,an 81 80,(none,.op (.store 4 (.tmp 2) (.tmp 73))),ae 3 77,ae 4 81]⟩]) <|
  .ret) (.skip)) <|
  .seq (.seq (aw [ae 82 5,bJ 83 82,aq 84 7 83,an 85 84]) <|
  .cond (.tmp 85) (aw [ae 86 5,ae 87 5,bJ 88 87,aq 89 0 88,aT 90 4 89,ae 91 5,bJ 92 91,aq 93 5 92,aq 94 0 93,an 95 94,aL 96 125 [90,95],bJ 97 86,aq 98 0 97,aq 99 3 98,(none,.op (.store 1 (.tmp 99) (.tmp 96)))]) (.skip)) <|
  .seq (aw [ae 100 5,bJ 101 100,aq 102 0 101,aT 103 4 102,(none,.op (.store 4 (.tmp 2) (.tmp 103))),((some 3),.op (.aZ (.val (.val (.complex .f64 0 0))))),aH 4 0]) <|
  .ret,
  [.cell 2 (some 4),.tmp 3,.tmp 4],104⟩
theorem sY:bK Tryz.prog 71 [1]=some nz:=by kernel_rfl
def qx:DC :=
  .seq (.seq (.region [] [⟨none,[ae 28 5,aq 29 2 3,an 30 29,aP 31 30,aR 32 .lss 28 31,ae 33 32]⟩,⟨(some (33,true)),[ae 34 0,bJ 35 34,aq 36 10 35,an 37 36,ax 38 .eql 37 0]⟩,⟨none,[bN 39 33 38]⟩]) <|
  .cond (.tmp 39) (.skip) (.exit 0)) <|
  .seq (.block 1 (.seq (.region [] [⟨none,[aq 42 2 3,an 43 42,ae 44 5,aQ 45 2 43 44,aT 46 2 45,((some 6),.op (.alloc [(.val (.string ⟨#[]⟩)),(.val (.complex .f64 0 0))])),(none,.op (.store 2 (.tmp 6) (.tmp 46)))]⟩]) <|
  .seq (.seq (aw [aq 47 0 6,an 48 47,aL 49 139 [48],cd 50 49]) <|
  .cond (.tmp 50) (.seq (aw [ae 51 0,aT 52 2 6,cL 53 126 [(.tmp 51),(.tmp 52),(.val (.val (.int .i64 3)))]]) <|
  .ret) (.skip)) <|
  .seq (.seq (aw [ae 54 5,ax 55 .eql 54 6]) <|
  .cond (.tmp 55) (.seq (aw [ae 56 0,aT 57 2 6,cL 58 126 [(.tmp 56),(.tmp 57),(.val (.val (.int .i64 5)))]]) <|
  .ret) (.skip)) <|
  .seq (aw [ae 59 0,aT 60 2 6,cL 61 185 [(.tmp 59),(.tmp 60),(.val (.val (.bool true)))],ae 7 61]) <|
  .seq (aw [aq 62 1 4,an 63 62,ae 64 7,((some 65),.op (.bA 1 1 [(.val (.int .i64 0))] [(0,(.tmp 64))])),((some 66),.op (.app 1 8 (.tmp 63) (.tmp 65))),aq 67 1 4,(none,.op (.store 1 (.tmp 67) (.tmp 66)))]) <|
  .seq (aw [ae 68 7,ax 69 .geq 68 0]) <|
  .cond (.tmp 69) (aw [ae 70 7,aq 71 2 4,(none,.op (.store 1 (.tmp 71) (.tmp 70)))]) (.skip))) <|
  aw [ae 40 5,ax 41 .add 40 1,ae 5 41]
def kF:DF:=⟨.seq (aw [cx 3 1]) <|
  .seq (.region [(7,9)] [⟨none,[ae 8 0,bJ 9 8,aq 10 0 9,aT 11 4 10,aq 12 0 3,aq 13 0 12,an 14 13,aL 15 125 [11,14],((some 16),.op (.build [(.val (.int .i64 0)),(.emp 1),(.val (.int .i64 0))] [(0,1,(.tmp 15)),(2,1,(.val (.val (.int .i64 (-1)))))])),((some 4),.op (.alloc [(.val (.int .i64 0)),(.emp 1),(.val (.int .i64 0))])),(none,.op (.store 3 (.tmp 4) (.tmp 16)))]⟩]) <|
  .seq (.seq (aw [ae 17 0,bJ 18 17,aq 19 0 18,aq 20 2 19,an 21 20,aP 22 21,ax 23 .eql 22 40]) <|
  .cond (.tmp 23) (aw [ae 24 0,aq 25 0 3,aT 26 2 25,cL 27 126 [(.tmp 24),(.tmp 26),(.val (.val (.int .i64 5)))]]) (.skip)) <|
  .seq (.seq (aw [aH 5 0]) <|
  .block 0 (.loop qx)) <|
  .seq (.seq (.region [] [⟨none,[aq 72 3 3,aq 73 0 72,an 74 73,((some 75),.op (.iN .neq (.tmp 74) (.val (.val (.string ⟨#[]⟩))))),ae 76 75]⟩,⟨(some (76,true)),[ae 77 0,bJ 78 77,aq 79 10 78,an 80 79,ax 81 .eql 80 0]⟩,⟨none,[bN 82 76 81]⟩]) <|
  .cond (.tmp 82) (.seq (.seq (aw [aq 83 3 3,aq 84 0 83,an 85 84,aL 86 139 [85],cd 87 86]) <|
  .cond (.tmp 87) (.seq (aw [ae 88 0,aq 89 3 3,aT 90 2 89,cL 91 126 [(.tmp 88),(.tmp 90),(.val (.val (.int .i64 3)))]]) <|
  .ret) (.skip)) <|
  aw [ae 92 0,aq 93 3 3,aT 94 2 93,cL 95 185 [(.tmp 92),(.tmp 94),(.val (.val (.bool false)))],aq 96 2 4,(none,.op (.store 1 (.tmp 96) (.tmp 95)))]) (.skip)) <|
  aw [ae 97 0,ae 98 0,bJ 99 98,aq 100 0 99,aq 101 2 100,an 102 101,aT 103 3 4,((some 104),.op (.bA 1 3 [(.val (.int .i64 0)),(.emp 1),(.val (.int .i64 0))] [(0,(.tmp 103))])),((some 105),.op (.app 3 40 (.tmp 102) (.tmp 104))),bJ 106 97,aq 107 0 106,aq 108 2 107,(none,.op (.store 1 (.tmp 108) (.tmp 105)))],
  [],109⟩
theorem pW:bK Tryz.prog 124 [3]=some kF:=by kernel_rfl
def nB:DF:=⟨.seq (aw [bg 2 false]) <|
  .seq (.region [] [⟨none,[ae 3 0,aL 4 142 [3],ae 5 4]⟩,⟨(some (5,false)),[ae 6 0,aL 7 191 [6]]⟩,⟨none,[bH 8 5 7,ae 2 8]⟩]) <|
  .ret,
  [.tmp 2],9⟩
theorem te:bK Tryz.prog 139 []=some nB:=by kernel_rfl
def vG:DC :=
  .seq (.seq (aw [ae 18 3,ae 19 0,((some 20),.op (.gP (.tmp 19))),aR 21 .lss 18 20]) <|
  .cond (.tmp 21) (.skip) (.exit 0)) <|
  .seq (.block 1 (.seq (aw [ae 24 0,ae 25 3,((some 26),.op (.dq (.tmp 24) (.tmp 25))),aL 27 193 [26],cd 28 27]) <|
  .cond (.tmp 28) (.seq (aw [bg 2 false]) <|
  .ret) (.skip))) <|
  aw [ae 22 3,ax 23 .add 22 1,ae 3 23]
def pF:DF:=⟨.seq (aw [bg 2 false]) <|
  .seq (.seq (.region [] [⟨none,[ae 4 0,((some 5),.op (.gP (.tmp 4))),ax 6 .eql 5 0,ae 7 6]⟩,⟨(some (7,false)),[ae 8 0,((some 9),.op (.gP (.tmp 8))),ax 10 .gtr 9 20]⟩,⟨none,[bH 11 7 10,ae 12 11]⟩,⟨(some (12,false)),[ae 13 0,((some 14),.op (.dq (.tmp 13) (.val (.val (.int .i64 0))))),aL 15 192 [14],cd 16 15]⟩,⟨none,[bH 17 12 16]⟩]) <|
  .cond (.tmp 17) (.seq (aw [bg 2 false]) <|
  .ret) (.skip)) <|
  .seq (.seq (aw [aH 3 0]) <|
  .block 0 (.loop vG)) <|
  .seq (aw [bg 2 true]) <|
  .ret,
  [.tmp 2],29⟩
theorem uy:bK Tryz.prog 142 []=some pF:=by kernel_rfl
def kz:DF:=⟨.seq (aw [cx 4 1]) <|
  .seq (aw [ae 6 0,bJ 7 6,aq 8 10 7,an 9 8,ax 10 .eql 9 0]) <|
  .cond (.tmp 10) (aw [ae 11 0,ae 12 0,aq 13 1 4,an 14 13,ae 15 2,bJ 16 11,aq 17 9 16,(none,.op (.store 1 (.tmp 17) (.tmp 14))),bJ 18 12,aq 19 10 18,(none,.op (.store 1 (.tmp 19) (.tmp 15)))]) (.skip),
  [],20⟩
theorem pM:bK Tryz.prog 126 [4]=some kz:=by kernel_rfl
def jo:DF:=⟨.seq (aw [cx 4 1,aH 6 0]) <|
  .seq (aw [ae 8 0,bJ 9 8,aq 10 0 9,aT 11 4 10,aq 12 0 4,an 13 12,aL 14 125 [11,13],ae 7 14]) <|
  .seq (.block 0 (.seq (.region [] [⟨none,[ae 19 7,ax 20 .geq 19 0,ae 21 20]⟩,⟨(some (21,true)),[ae 22 2]⟩,⟨none,[bN 23 21 22,ae 18 23]⟩]) <|
  .cond (.tmp 18) (.seq (aw [ae 24 7,((some 25),.op (.arith .sub (.val (.val (.int .i64 (-1)))) (.tmp 24))),ae 6 25]) <|
  .ret) (.seq (aw [ae 27 7,ax 28 .geq 27 0,ae 26 28]) <|
  .cond (.tmp 26) (aw [ae 29 0,aT 30 2 4,cL 31 126 [(.tmp 29),(.tmp 30),(.val (.val (.int .i64 6)))]]) (.seq (.region [] [⟨none,[ae 33 0,bJ 34 33,aq 35 0 34,aT 36 4 35,aq 37 0 4,an 38 37,aL 39 140 [36,38],ax 40 .geq 39 0,ae 41 40]⟩,⟨(some (41,false)),[aq 42 0 4,an 43 42,aL 44 191 [43]]⟩,⟨none,[bH 45 41 44,ae 46 45]⟩,⟨(some (46,false)),[aq 47 0 4,an 48 47,((some 49),.op (.iN .eql (.tmp 48) (.val (.val (.string ⟨#[101,114,114,111,114]⟩)))))]⟩,⟨none,[bH 50 46 49,ae 32 50]⟩]) <|
  .cond (.tmp 32) (.seq (aw [ae 51 0,aT 52 2 4,aL 53 226 [51,52],ae 6 53]) <|
  .ret) (aw [ae 15 0,aT 16 2 4,cL 17 126 [(.tmp 15),(.tmp 16),(.val (.val (.int .i64 6)))]]))))) <|
  .seq (aw [aH 6 0]) <|
  .ret,
  [.tmp 6],54⟩
theorem nY:bK Tryz.prog 185 [4]=some jo:=by kernel_rfl
def wv:DC :=
  .seq (.seq (aw [ae 6 5,aq 7 1 2,an 8 7,aP 9 8,aR 10 .lss 6 9]) <|
  .cond (.tmp 10) (.skip) (.exit 0)) <|
  .seq (.block 1 (.seq (aw [aq 13 1 2,an 14 13,ae 15 5,aQ 16 1 14 15,an 17 16,ae 18 1,((some 19),.op (.iN .eql (.tmp 17) (.tmp 18)))]) <|
  .cond (.tmp 19) (.seq (aw [ae 20 5,ae 4 20]) <|
  .ret) (.skip))) <|
  aw [ae 11 5,ax 12 .add 11 1,ae 5 12]
def qh:DF:=⟨.seq (aw [cx 2 0,aH 4 0]) <|
  .seq (.seq (aw [aH 5 0]) <|
  .block 0 (.loop wv)) <|
  .seq (aw [aH 4 (-1)]) <|
  .ret,
  [.tmp 4],21⟩
theorem ve:bK Tryz.prog 125 [2]=some qh:=by kernel_rfl
def vf:DC :=
  .seq (.seq (aw [ae 6 5,aq 7 0 2,an 8 7,aP 9 8,aR 10 .lss 6 9]) <|
  .cond (.tmp 10) (.skip) (.exit 0)) <|
  .seq (.block 1 (.seq (aw [aq 13 0 2,an 14 13,ae 15 5,aQ 16 3 14 15,aq 17 0 16,an 18 17,ae 19 1,((some 20),.op (.iN .eql (.tmp 18) (.tmp 19)))]) <|
  .cond (.tmp 20) (.seq (aw [ae 21 5,ae 4 21]) <|
  .ret) (.skip))) <|
  aw [ae 11 5,ax 12 .add 11 1,ae 5 12]
def pv:DF:=⟨.seq (aw [cx 2 0,aH 4 0]) <|
  .seq (.seq (aw [aH 5 0]) <|
  .block 0 (.loop vf)) <|
  .seq (aw [aH 4 (-1)]) <|
  .ret,
  [.tmp 4],22⟩
theorem tV:bK Tryz.prog 140 [2]=some pv:=by kernel_rfl
def iz:DF:=⟨.seq (aw [cx 3 1,aH 4 0]) <|
  .seq (aw [ae 6 0,bJ 7 6,aq 8 0 7,aT 9 4 8,aq 10 0 3,an 11 10,aL 12 140 [9,11],ae 5 12]) <|
  .seq (.seq (aw [ae 13 5,ax 14 .geq 13 0]) <|
  .cond (.tmp 14) (.seq (aw [ae 15 5,ae 4 15]) <|
  .ret) (.skip)) <|
  .seq (.seq (aw [ae 16 0,bJ 17 16,aq 18 0 17,aq 19 0 18,an 20 19,aP 21 20,ax 22 .eql 21 24]) <|
  .cond (.tmp 22) (.seq (aw [ae 23 0,aT 24 2 3,cL 25 126 [(.tmp 23),(.tmp 24),(.val (.val (.int .i64 5)))]]) <|
  .seq (aw [aH 4 0]) <|
  .ret) (.skip)) <|
  .seq (.region [] [⟨none,[ae 26 0,ae 27 0,bJ 28 27,aq 29 0 28,aq 30 0 29,an 31 30,aq 32 0 3,an 33 32,((some 34),.op (.build [(.val (.string ⟨#[]⟩)),(.val (.int .i64 0)),(.val (.int .i64 0))] [(0,1,(.tmp 33))])),((some 35),.op (.bA 1 3 [(.val (.string ⟨#[]⟩)),(.val (.int .i64 0)),(.val (.int .i64 0))] [(0,(.tmp 34))])),((some 36),.op (.app 3 32 (.tmp 31) (.tmp 35))),bJ 37 26,aq 38 0 37,aq 39 0 38,(none,.op (.store 1 (.tmp 39) (.tmp 36)))]⟩]) <|
  .seq (aw [ae 40 0,bJ 41 40,aq 42 0 41,aq 43 0 42,an 44 43,aP 45 44,ax 46 .sub 45 1,ae 4 46]) <|
  .ret,
  [.tmp 4],47⟩
theorem ml:bK Tryz.prog 226 [3]=some iz:=by kernel_rfl
def pP:DC :=
  .seq (.seq (.region [] [⟨none,[ae 60 7,aq 61 1 5,an 62 61,aP 63 62,aR 64 .lss 60 63,ae 65 64]⟩,⟨(some (65,true)),[ae 66 0,bJ 67 66,aq 68 10 67,an 69 68,ax 70 .eql 69 0]⟩,⟨none,[bN 71 65 70]⟩]) <|
  .cond (.tmp 71) (.skip) (.exit 2)) <|
  .seq (.block 3 (aw [ae 74 0,aq 75 0 5,an 76 75,aq 77 1 5,an 78 77,ae 79 7,aQ 80 2 78 79,aT 81 2 80,aL 82 184 [74,76,81]])) <|
  aw [ae 72 7,ax 73 .add 72 1,ae 7 73]
def pQ:DC :=
  .seq (.seq (.region [] [⟨none,[ae 8 4,ae 9 1,aP 10 9,aR 11 .lss 8 10,ae 12 11]⟩,⟨(some (12,true)),[ae 13 0,bJ 14 13,aq 15 10 14,an 16 15,ax 17 .eql 16 0]⟩,⟨none,[bN 18 12 17]⟩]) <|
  .cond (.tmp 18) (.skip) (.exit 0)) <|
  .seq (.block 1 (.seq (aw [ae 21 1,ae 22 4,aQ 23 2 21 22,aT 24 2 23,((some 5),.op (.alloc [(.val (.int .i64 0)),(.emp 1)])),(none,.op (.store 2 (.tmp 5) (.tmp 24)))]) <|
  .seq (.seq (.region [] [⟨none,[aq 25 0 5,an 26 25,ax 27 .lss 26 3,ae 28 27]⟩,⟨(some (28,false)),[aq 29 0 5,an 30 29,ax 31 .gtr 30 7]⟩,⟨none,[bH 32 28 31]⟩]) <|
  .cond (.tmp 32) (.seq (.region [] [⟨none,[((some 33),.op (.build [(.val (.string ⟨#[]⟩)),(.val (.complex .f64 0 0))] [])),((some 6),.op (.alloc [(.val (.string ⟨#[]⟩)),(.val (.complex .f64 0 0))])),(none,.op (.store 2 (.tmp 6) (.tmp 33)))]⟩]) <|
  .seq (.seq (aw [aq 34 1 5,an 35 34,aP 36 35,ax 37 .gtr 36 0]) <|
  .cond (.tmp 37) (aw [aq 38 1 5,an 39 38,((some 40),.op (.idx 2 (.tmp 39) (.val (.val (.int .i64 0))))),aT 41 2 40,(none,.op (.store 2 (.tmp 6) (.tmp 41)))]) (.skip)) <|
  .seq (aw [ae 42 0,aT 43 2 6,cL 44 126 [(.tmp 42),(.tmp 43),(.val (.val (.int .i64 3)))]]) <|
  .ret) (.skip)) <|
  .seq (.seq (.region [] [⟨none,[aq 45 0 5,an 46 45,ax 47 .neq 46 3,ae 48 47]⟩,⟨(some (48,true)),[aq 49 0 5,an 50 49,ax 51 .neq 50 7]⟩,⟨none,[bN 52 48 51]⟩]) <|
  .cond (.tmp 52) (aw [ae 53 0,bJ 54 53,aq 55 8 54,an 56 55,ax 57 .add 56 1,bJ 58 53,aq 59 8 58,(none,.op (.store 1 (.tmp 59) (.tmp 57)))]) (.skip)) <|
  .seq (aw [aH 7 0]) <|
  .block 2 (.loop pP))) <|
  aw [ae 19 4,ax 20 .add 19 1,ae 4 20]
def jR:DF:=⟨.seq (aw [aH 4 0]) <|
  .block 0 (.loop pQ),
  [],83⟩
theorem pg:bK Tryz.prog 122 []=some jR:=by kernel_rfl
def iQ:DF:=⟨.seq (aw [cx 5 2]) <|
  .block 0 (.seq (.region [] [⟨none,[aq 63 0 5,an 64 63,aL 65 139 [64],cd 66 65,ae 67 66]⟩,⟨(some (67,false)),[ae 68 1,ax 69 .eql 68 7,ae 70 69]⟩,⟨(some (70,true)),[aq 71 0 5,an 72 71,aL 73 142 [72],cd 74 73]⟩,⟨(some (67,false)),[bN 75 70 74]⟩,⟨none,[bH 76 67 75,ae 62 76]⟩]) <|
  .cond (.tmp 62) (aw [ae 77 0,aT 78 2 5,cL 79 126 [(.tmp 77),(.tmp 78),(.val (.val (.int .i64 3)))]]) (.seq (aw [ae 81 1,ax 82 .eql 81 7,ae 80 82]) <|
  .cond (.tmp 80) (.seq (.seq (aw [ae 83 0,bJ 84 83,aq 85 7 84,an 86 85]) <|
  .cond (.tmp 86) (aw [ae 87 0,aT 88 2 5,cL 89 126 [(.tmp 87),(.tmp 88),(.val (.val (.int .i64 7)))]]) (.skip)) <|
  aw [ae 90 0,ae 91 0,aT 92 2 5,bJ 93 90,aq 94 5 93,(none,.op (.store 2 (.tmp 94) (.tmp 92))),bJ 95 91,aq 96 7 95,(none,.op (.store 1 (.tmp 96) (.val (.val (.bool true)))))]) (.seq (aw [ae 98 1,ax 99 .eql 98 3,ae 97 99]) <|
  .cond (.tmp 97) (.seq (.seq (aw [ae 100 0,bJ 101 100,aq 102 4 101,an 103 102,aq 104 0 5,an 105 104,aL 106 225 [103,105]]) <|
  .cond (.tmp 106) (aw [ae 107 0,aT 108 2 5,cL 109 126 [(.tmp 107),(.tmp 108),(.val (.val (.int .i64 7)))]]) (.skip)) <|
  .seq (.region [] [⟨none,[ae 110 0,ae 111 0,bJ 112 111,aq 113 4 112,an 114 113,aq 115 0 5,an 116 115,((some 117),.op (.bA 1 1 [(.val (.string ⟨#[]⟩))] [(0,(.tmp 116))])),((some 118),.op (.app 1 16 (.tmp 114) (.tmp 117))),bJ 119 110,aq 120 4 119,(none,.op (.store 1 (.tmp 120) (.tmp 118)))]⟩]) <|
  aw [ae 121 0,aT 122 2 5,aL 123 226 [121,122]]) (.seq (aw [ae 7 0,bJ 8 7,aq 9 0 8,aT 10 4 9,aq 11 0 5,an 12 11,aL 13 140 [10,12],ae 6 13]) <|
  .seq (.seq (.region [] [⟨none,[ae 14 6,ax 15 .geq 14 0,ae 16 15]⟩,⟨(some (16,true)),[ae 17 0,bJ 18 17,aq 19 0 18,aq 20 0 19,an 21 20,ae 22 6,aQ 23 3 21 22,aq 24 1 23,an 25 24,ax 26 .gtr 25 0]⟩,⟨none,[bN 27 16 26]⟩]) <|
  .cond (.tmp 27) (.seq (aw [ae 28 0,aT 29 2 5,cL 30 126 [(.tmp 28),(.tmp 29),(.val (.val (.int .i64 7)))]]) <|
  .ret) (.skip)) <|
  .seq (aw [ae 31 0,aT 32 2 5,aL 33 226 [31,32],ae 6 33]) <|
  .seq (aw [ae 34 0,bJ 35 34,aq 36 10 35,an 37 36,ax 38 .eql 37 0]) <|
  .cond (.tmp 38) (aw [ae 39 0,bJ 40 39,aq 41 0 40,aq 42 0 41,an 43 42,ae 44 6,ae 45 0,bJ 46 45,aq 47 0 46,aq 48 0 47,an 49 48,ae 50 6,ae 51 0,bJ 52 51,aq 53 8 52,an 54 53,ae 55 1,ax 56 .sub 55 4,ax 57 .add 56 1,aQ 58 3 43 44,aq 59 1 58,(none,.op (.store 1 (.tmp 59) (.tmp 54))),aQ 60 3 49 50,aq 61 2 60,(none,.op (.store 1 (.tmp 61) (.tmp 57)))]) (.skip))))),
  [],124⟩
theorem m7:bK Tryz.prog 184 [5]=some iQ:=by kernel_rfl
def wm:DC :=
  .seq (.seq (aw [ae 6 5,ae 7 0,aP 8 7,aR 9 .lss 6 8]) <|
  .cond (.tmp 9) (.skip) (.exit 0)) <|
  .seq (.block 1 (.seq (aw [ae 12 0,ae 13 5,aQ 14 1 12 13,an 15 14,ae 16 1,((some 17),.op (.iN .eql (.tmp 15) (.tmp 16)))]) <|
  .cond (.tmp 17) (.seq (aw [bg 4 true]) <|
  .ret) (.skip))) <|
  aw [ae 10 5,ax 11 .add 10 1,ae 5 11]
def qg:DF:=⟨.seq (aw [bg 4 false]) <|
  .seq (.seq (aw [aH 5 0]) <|
  .block 0 (.loop wm)) <|
  .seq (aw [bg 4 false]) <|
  .ret,
  [.tmp 4],18⟩
theorem vD:bK Tryz.prog 225 []=some qg:=by kernel_rfl
def pO:DC :=
  .seq (.seq (.region [] [⟨none,[ae 6 4,ae 7 1,aP 8 7,aR 9 .lss 6 8,ae 10 9]⟩,⟨(some (10,true)),[ae 11 0,bJ 12 11,aq 13 10 12,an 14 13,ax 15 .eql 14 0]⟩,⟨none,[bN 16 10 15]⟩]) <|
  .cond (.tmp 16) (.skip) (.exit 0)) <|
  .seq (.block 1 (.seq (.region [] [⟨none,[ae 19 1,ae 20 4,aQ 21 5 19 20,aq 22 0 21,aT 23 2 22,((some 5),.op (.alloc [(.val (.string ⟨#[]⟩)),(.val (.complex .f64 0 0))])),(none,.op (.store 2 (.tmp 5) (.tmp 23)))]⟩]) <|
  .block 2 (.seq (aw [aq 38 0 5,an 39 38,aL 40 142 [39],cd 41 40,ae 37 41]) <|
  .cond (.tmp 37) (aw [ae 42 0,aT 43 2 5,cL 44 126 [(.tmp 42),(.tmp 43),(.val (.val (.int .i64 3)))]]) (.seq (aw [ae 46 0,bJ 47 46,aq 48 0 47,aT 49 4 48,aq 50 0 5,an 51 50,aL 52 140 [49,51],ax 53 .geq 52 0,ae 45 53]) <|
  .cond (.tmp 45) (aw [ae 54 0,aT 55 2 5,cL 56 126 [(.tmp 54),(.tmp 55),(.val (.val (.int .i64 7)))]]) (.seq (aw [ae 58 0,bJ 59 58,aq 60 0 59,aT 61 4 60,aq 62 0 5,an 63 62,aL 64 125 [61,63],ax 65 .geq 64 0,ae 57 65]) <|
  .cond (.tmp 57) (.skip) (.seq (aw [ae 67 0,bJ 68 67,aq 69 0 68,aq 70 1 69,an 71 70,aP 72 71,ax 73 .eql 72 16,ae 66 73]) <|
  .cond (.tmp 66) (aw [ae 74 0,aT 75 2 5,cL 76 126 [(.tmp 74),(.tmp 75),(.val (.val (.int .i64 5)))]]) (.region [] [⟨none,[ae 24 0,ae 25 0,bJ 26 25,aq 27 0 26,aq 28 1 27,an 29 28,aq 30 0 5,an 31 30,((some 32),.op (.bA 1 1 [(.val (.string ⟨#[]⟩))] [(0,(.tmp 31))])),((some 33),.op (.app 1 16 (.tmp 29) (.tmp 32))),bJ 34 24,aq 35 0 34,aq 36 1 35,(none,.op (.store 1 (.tmp 36) (.tmp 33)))]⟩]))))))) <|
  aw [ae 17 4,ax 18 .add 17 1,ae 4 18]
def jN:DF:=⟨.seq (aw [aH 4 0]) <|
  .block 0 (.loop pO),
  [],77⟩
theorem pE:bK Tryz.prog 123 []=some jN:=by kernel_rfl
def Br:List (FuncId × DF):=[(41,pj),(70,nI),(120,mR),(176,pB),(215,p8),(216,py),(217,oT),(218,mo),(234,m3),(177,qO),(219,q7),(178,pX),(193,nH),(192,np),(191,l5),(220,lz),(221,lS),(222,o8),(121,rr),(182,jk),(181,iL),(223,ji),(224,kC),(180,jx),(183,jj),(179,iK),(71,nz),(124,kF),(139,nB),(142,pF),(126,kz),(185,jo),(125,qh),(140,pv),(226,iz),(122,jR),(184,iQ),(225,qg),(123,jN)]
theorem HL:rL Tryz.prog Br:=by
  intro p hp
  simp only[Br,List.mem_cons,List.not_mem_nil,or_false] at hp
  rcases hp with rfl | rfl | rfl | rfl | rfl | rfl | rfl | rfl | rfl | rfl | rfl | rfl | rfl | rfl | rfl | rfl | rfl | rfl | rfl | rfl | rfl | rfl | rfl | rfl | rfl | rfl | rfl | rfl | rfl | rfl | rfl | rfl | rfl | rfl | rfl | rfl | rfl | rfl | rfl
  · exact ⟨_,tq⟩
  · exact ⟨_,sJ⟩
  · exact ⟨_,rF⟩
  · exact ⟨_,tt⟩
  · exact ⟨_,uL⟩
  · exact ⟨_,tU⟩
  · exact ⟨_,tL⟩
  · exact ⟨_,rE⟩
  · exact ⟨_,rH⟩
  · exact ⟨_,wz⟩
  · exact ⟨_,wD⟩
  · exact ⟨_,vB⟩
  · exact ⟨_,s7⟩
  · exact ⟨_,sZ⟩
  · exact ⟨_,rz⟩
  · exact ⟨_,qT⟩
  · exact ⟨_,ra⟩
  · exact ⟨_,uq⟩
  · exact ⟨_,wE⟩
  · exact ⟨_,nR⟩
  · exact ⟨_,nb⟩
  · exact ⟨_,nS⟩
  · exact ⟨_,pL⟩
  · exact ⟨_,ou⟩
  · exact ⟨_,nV⟩
  · exact ⟨_,m8⟩
  · exact ⟨_,sY⟩
  · exact ⟨_,pW⟩
  · exact ⟨_,te⟩
  · exact ⟨_,uy⟩
  · exact ⟨_,pM⟩
  · exact ⟨_,nY⟩
  · exact ⟨_,ve⟩
  · exact ⟨_,tV⟩
  · exact ⟨_,ml⟩
  · exact ⟨_,pg⟩
  · exact ⟨_,m7⟩
  · exact ⟨_,vD⟩
  · exact ⟨_,pE⟩
def zO (l:List Int):V:=.aY (l.map fun x=>[gy x])
theorem JQ (l:List Int):Tree (zO l):=eV _ _ fun x _ v hv=>by simp at hv; subst hv; exact .val _
def qI (g:ao):V:=.bt [.agg (al g),.val (.complex .f64 0 0),gi 0]
theorem FO {l:List Int} {g:ao} (h:tw Tryz.prog Br (fun _ _ _=>none) 41 [zO l]=some (qI g)):bP Tryz.prog 41 [zO l] (qI g) :=
  qB mixed HL (GR _) (by intro v hv; simp at hv; subst hv; exact JQ _) h
abbrev dx (κ:Type):=List (κ × V × Nat)
def c4 {κ:Type} (key:κ→Value) (m:dx κ):List (V × V × Nat):=m.map fun x=>(.val (key x.1),x.2.1,x.2.2)
def getM {κ:Type} [BEq κ] (m:dx κ) (k:κ):Option V:=(m.find? fun x=>k == x.1).map (·.2.1)
def cT {κ:Type} [BEq κ] (k:κ) (v:V) (c:Nat):dx κ→dx κ
  | []=>[(k,v,c)]
  | x :: r=>if k == x.1 then (k,v,x.2.2) :: r else x :: cT k v c r
structure Bi {κ:Type} [BEq κ] (P:Program) (kt:TypeId) (key:κ→Value):Prop where
  ty:∃ d,P.underlying kt=some d∧(∀ a b,Instr.sameNow d (key a) (key b)=some (a == b))∧(∀ a e,bB P (Instr.checkKey e 10000 kt (key a))=some ())
  bits:∀ a b,(a == b)=true→Instr.sameBits 10000 (key b) (key a)=true
theorem um {κ:Type} (key:κ→Value):∀ m:dx κ,iD (c4 key m)=some (m.map fun x=>{ key:=key x.1,val:=.nilFunc,born:=x.2.2 })
  | []=>rfl
  | x :: r=>by
    have:=um key r
    simp only[c4] at this
    simp[c4,iD,cK,this]
def jV {κ:Type} [BEq κ] (k:κ):dx κ→Option Nat
  | []=>none
  | x :: r=>if k == x.1 then some 0 else (jV k r).map (·+1)
theorem yK {κ:Type} [BEq κ] {key:κ→Value} {d:TypeDesc} (h:∀ a b,Instr.sameNow d (key a) (key b)=some (a == b)) (k:κ):∀ (m:dx κ) (i:Nat),
    Instr.findNow d (key k) (m.map fun x=>{ key:=key x.1,val:=.nilFunc,born:=x.2.2 }) i=some ((jV k m).map fun j=>(i+j,.nilFunc))
  | [],i=>rfl
  | x :: r,i=>by
    simp only[List.map_cons,Instr.findNow,h,jV]
    cases hk:k == x.1 with
    | true=>simp
    | false =>
      simp only[yK h k r (i+1),Bool.false_eq_true,if_false,Option.map_map]
      congr 2
      funext j
      simp only[Function.comp]
      congr 1
      omega
theorem xW {κ:Type} [BEq κ] {P:Program} {kt:TypeId} {key:κ→Value} (h:Bi P kt key) (k:κ) (e:Bool) (m:dx κ):mA P kt (.val (key k)) e (c4 key m)=some (jV k m):=by
  obtain ⟨d,hd,hn,hc⟩:=h.ty
  have hu:bB P (underlying kt)=some d:=dZ hd
  simp only[mA,cK,um,bw,hc,Option.bind_some]
  have:bB P (Instr.findKey kt (key k) (m.map fun x=>{ key:=key x.1,val:=.nilFunc,born:=x.2.2 }))=some ((jV k m).map fun j=>(0+j,.nilFunc)):=by
    unfold Instr.findKey
    rw[bw,hu,Option.bind_some,yK hn]
    rfl
  rw[this]
  cases jV k m with
  | none=>rfl
  | some j=>simp
theorem Hh {P:Program} {kt:TypeId} {d:TypeDesc} (h:P.underlying kt=some d) (hd:match d with | .int _ | .string | .bool=>True | _=>False) (e:Bool) (n:Nat) (v:Value):bB P (Instr.checkKey e (n+1) kt v)=some ():=by
  unfold Instr.checkKey
  rw[bw,dZ h,Option.bind_some]
  cases d <;> first | exact hd.elim | rfl
theorem ia {P:Program} {kt:TypeId} (k:IntKind) (h:P.underlying kt=some (.int k)):Bi P kt (Value.int k) where
  ty:=⟨_,h,fun a b=>by simp[Instr.sameNow],fun a e=>Hh h trivial e 9999 _⟩
  bits:=fun a b hab=>by
    have:a=b:=by simpa using hab
    subst this
    simp[Instr.sameBits]
theorem uZ {κ:Type} [BEq κ] {key:κ→Value} (k:κ):∀ m:dx κ,match jV k m with
    | some i=>∃ x,m[i]?=some x∧(k == x.1)=true∧getM m k=some x.2.1∧(c4 key m)[i]?=some (.val (key x.1),x.2.1,x.2.2)∧∀ v c,(c4 key m).set i (.val (key k),v,x.2.2)=c4 key (cT k v c m)∧(cT k v c m).length=m.length
    | none=>getM m k=none∧∀ v c,c4 key m ++ [(.val (key k),v,c)]=c4 key (cT k v c m)∧(cT k v c m).length=m.length+1
  | []=>⟨rfl,fun v c=>⟨rfl,rfl⟩⟩
  | x :: r=>by
    have ih:=uZ (key:=key) k r
    simp only[jV]
    cases hk:k == x.1 with
    | true=>exact ⟨x,rfl,hk,by simp[getM,hk],rfl,fun v c=>by simp[cT,hk,c4]⟩
    | false =>
      simp only[Bool.false_eq_true,if_false]
      cases hi:jV k r with
      | some i =>
        rw[hi] at ih
        obtain ⟨y,h1,h2,h3,h4,h5⟩:=ih
        refine ⟨y,by simpa using h1,h2,by simpa [getM,hk] using h3,by simpa [c4] using h4,fun v c=>?_⟩
        obtain ⟨g1,g2⟩:=h5 v c
        exact ⟨by simp only[c4] at g1 ⊢; simp[cT,hk,g1],by simp[cT,hk,g2]⟩
      | none =>
        rw[hi] at ih
        refine ⟨by simpa [getM,hk] using ih.1,fun v c=>?_⟩
        obtain ⟨g1,g2⟩:=ih.2 v c
        exact ⟨by simp only[c4] at g1 ⊢; simp[cT,hk,g1],by simp[cT,hk,g2]⟩
section
variable {P:Program} {T:Env} {H:View} {κ:Type} [BEq κ] {key:κ→Value} {kt et t ty:TypeId}
theorem yz {K:V→View→Prop} {w:cF (T,H,K)} {x i:Operand} {z:V} {id c:Nat} {m:dx κ} {k:κ} (hm:eT P t=some (kt,et)) (hz:zeroV P et=some z) (hk:Bi P kt key)
    (hx:ev T x=.mp id) (hi:ev T i=.val (key k)) (hH:H id=.map (c4 key m) c) (h:K ((getM m k).getD z) H):oN P (.lookup t x i false) ty T H K w:=by
  intro n _
  have hf:=xW hk k (c4 key m).isEmpty m
  have hg:=uZ (key:=key) k m
  refine ⟨(getM m k).getD z,.none,[id],?_,h⟩
  simp only[sI,cb,oper,eS,hm,hz,hx,hi,hH,hf]
  cases hj:jV k m with
  | some j =>
    rw[hj] at hg
    obtain ⟨y,h1,h2,h3,h4,_⟩:=hg
    simp[h4,h3]
  | none =>
    rw[hj] at hg
    simp[hg.1]
theorem Mj {K:V→View→Prop} {w:cF (T,H,K)} {x i:Operand} {z:V} {id c:Nat} {m:dx κ} {k:κ} (hm:eT P t=some (kt,et)) (hz:zeroV P et=some z) (hk:Bi P kt key)
    (hx:ev T x=.mp id) (hi:ev T i=.val (key k)) (hH:H id=.map (c4 key m) c) (h:K (.bt [(getM m k).getD z,.val (.bool (getM m k).isSome)]) H):oN P (.lookup t x i true) ty T H K w:=by
  intro n _
  have hf:=xW hk k (c4 key m).isEmpty m
  have hg:=uZ (key:=key) k m
  refine ⟨_,.none,[id],?_,h⟩
  simp only[sI,cb,oper,eS,hm,hz,hx,hi,hH,hf]
  cases hj:jV k m with
  | some j =>
    rw[hj] at hg
    obtain ⟨y,h1,h2,h3,h4,_⟩:=hg
    simp[h4,h3]
  | none =>
    rw[hj] at hg
    simp[hg.1]
theorem Kw (hk:Bi P kt key) (k k':κ) (h:(k == k')=true):sameKey (.val (key k')) (.val (key k))=true:=by
  simp only[sameKey,cK]; exact hk.bits _ _ h
theorem xJ {K:V→View→Prop} {w:cF (T,H,K)} {x i y:Operand} {id c:Nat} {m:dx κ} {k:κ} {v:V} (hm:eT P t=some (kt,et)) (hk:Bi P kt key)
    (hx:ev T x=.mp id) (hi:ev T i=.val (key k)) (hy:ev T y=v) (hH:H id=.map (c4 key m) c)
    (h:∀ c',K .any (H.set id (.map (c4 key (cT k v c m)) c'))):oN P (.mapUpdate t x i y) ty T H K w:=by
  intro n _
  have hf:=xW hk k false m
  have hg:=uZ (key:=key) k m
  cases hj:jV k m with
  | some j =>
    rw[hj] at hg hf
    obtain ⟨z,h1,h2,h3,h4,h5⟩:=hg
    refine ⟨.any,.fH id (.map ((c4 key m).set j (.val (key k),v,z.2.2)) c),[id],?_,?_⟩
    · simp only[sI,cb,oper,fc,hm,hx,hi,hy,hH,hf,h4,Kw hk k z.1 h2,if_true]
    · rw[(h5 v c).1]; exact h c
  | none =>
    rw[hj] at hg hf
    refine ⟨.any,.fH id (.map (c4 key m ++ [(.val (key k),v,c)]) (c+1)),[id],?_,?_⟩
    · simp only[sI,cb,oper,fc,hm,hx,hi,hy,hH,hf]
    · rw[(hg.2 v c).1]; exact h (c+1)
theorem Pw {P:Program} {T:Env} {H:View} {t ty:TypeId} {x i y:Operand} {K:V→View→Prop} {w:cF (T,H,K)} : oN P (.insert t x i y) ty T H K w=oN P (.mapUpdate t x i y) ty T H K w:=propext Iff.rfl
omit [BEq κ] in
theorem OC {K:V→View→Prop} {w:cF (T,H,K)} {x:Operand} {id c:Nat} {m:dx κ} (hm:eT P t=some (kt,et)) (hx:ev T x=.mp id) (hH:H id=.map (c4 key m) c) (h:K (aj m.length) H) :
    oN P (.call { callee:=.builtin .len,args:=#[x],argTypes:=#[t] }) ty T H K w:=by
  intro n _
  have hu:∃ a b,P.underlying t=some (.map a b):=by
    unfold eT at hm
    split at hm
    · rename_i a b h1; exact ⟨a,b,h1⟩
    · simp at hm
  obtain ⟨a,b,hu⟩:=hu
  refine ⟨aj m.length,.none,[id],?_,h⟩
  have hl:(c4 key m).length=m.length:=by simp[c4]
  simp only[sI,cb,oper,List.size_toArray,List.length_cons,List.length_nil,s6,hx,hH,hl]
  simp[hu]
end
theorem zC {κ:Type} [BEq κ] [LawfulBEq κ] (k k':κ) (v:V) (c:Nat):∀ m:dx κ,getM (cT k v c m) k'=if k' == k then some v else getM m k'
  | []=>by
    by_cases h:k'=k
    · subst h; simp[cT,getM]
    · simp[cT,getM,h]
  | x :: r=>by
    have ih:=zC k k' v c r
    simp only[cT]
    by_cases hk:k=x.1
    · by_cases h:k'=k
      · subst h; simp[hk,getM]
      · have:¬ k'=x.1:=fun e=>h (e.trans hk.symm)
        simp[hk,getM,this]
    · simp only[beq_iff_eq,hk,if_false]
      by_cases h:k'=x.1
      · have:¬ k'=k:=fun e=>hk (e.symm.trans h)
        simp[getM,h]
        subst h
        simp[this]
      · simp only[getM,List.find?_cons,beq_eq_false_iff_ne.2 h] at ih ⊢
        exact ih
def dw {κ β:Type} [BEq κ] (a:List (κ × β)) (k:κ):Option β:=(a.find? fun x=>k == x.1).map (·.2)
def jg {κ β:Type} [BEq κ] (k:κ) (v:β):List (κ × β)→List (κ × β)
  | []=>[(k,v)]
  | x :: r=>if k == x.1 then (k,v) :: r else x :: jg k v r
def mg {κ β:Type} (encV:β→V):List (κ × β)→dx κ→Prop
  | [],[]=>True
  | x :: a,y :: m=>y.1=x.1∧y.2.1=encV x.2∧mg encV a m
  | _,_=>False
theorem mg.get {κ β:Type} [BEq κ] {encV:β→V} (k:κ):∀ {a:List (κ × β)} {m:dx κ},mg encV a m→getM m k=(dw a k).map encV
  | [],[],_=>rfl
  | x :: a,y :: m,⟨h1,h2,h3⟩=>by
    have ih:=mg.get k h3
    simp only[getM,dw,List.find?_cons,h1] at ih ⊢
    cases k == x.1 with
    | true=>simp[h2]
    | false=>simpa using ih
theorem mg.put {κ β:Type} [BEq κ] {encV:β→V} (k:κ) (v:β) (c:Nat):∀ {a:List (κ × β)} {m:dx κ},mg encV a m→mg encV (jg k v a) (cT k (encV v) c m)
  | [],[],_=>⟨rfl,rfl,trivial⟩
  | x :: a,y :: m,⟨h1,h2,h3⟩=>by
    have ih:=mg.put k v c h3
    simp only[jg,cT,h1]
    cases k == x.1 with
    | true=>exact ⟨rfl,rfl,h3⟩
    | false=>exact ⟨h1,h2,ih⟩
theorem mg.len {κ β:Type} {encV:β→V} : ∀ {a:List (κ × β)} {m:dx κ},mg encV a m→m.length=a.length
  | [],[],_=>rfl
  | x :: a,y :: m,⟨_,_,h3⟩=>by simp[mg.len h3]
theorem DT {κ β:Type} [BEq κ] [LawfulBEq κ] (k k':κ) (v:β):∀ a:List (κ × β),dw (jg k v a) k'=if k' == k then some v else dw a k'
  | []=>by
    by_cases h:k'=k
    · subst h; simp[jg,dw]
    · simp[jg,dw,h]
  | x :: r=>by
    have ih:=DT k k' v r
    simp only[jg]
    by_cases hk:k=x.1
    · by_cases h:k'=k
      · subst h; simp[hk,dw]
      · have:¬ k'=x.1:=fun e=>h (e.trans hk.symm)
        simp[hk,dw,this]
    · simp only[beq_iff_eq,hk,if_false]
      by_cases h:k'=x.1
      · have:¬ k'=k:=fun e=>hk (e.symm.trans h)
        simp[dw,h]
        subst h
        simp[this]
      · simp only[dw,List.find?_cons,beq_eq_false_iff_ne.2 h] at ih ⊢
        exact ih
def Es (n k:Nat) (J:Nat→Env→View→Prop) (T:Env) (H:View):Prop:=∃ i,i+k=n∧J i T H
theorem bc.up {P:Program} {T:Env} {H:View} {c:SC} {Q:Exit→Env→View→Prop} {v:cF (T,H,Q)} (n:Nat) (J:Nat→Env→View→Prop) (h0:J 0 T H)
    (hs:∀ i k T H,i+k=n→J i T H→wS P c T H fun e T' H'=>yV e (∃ k',k' < k∧Es n k' J T' H') (Q e T' H')):bc P c T H Q v :=
  bc.intro (fun k T H=>Es n k J T H) n ⟨0,by omega,h0⟩ fun k T H ⟨i,hk,hj⟩=>hs i k T H hk hj
theorem aJ {n i k:Nat} {J:Nat→Env→View→Prop} {T:Env} {H:View} (hk:i+k=n) (hlt:i < n) (hJ:J (i+1) T H):∃ k',k' < k∧Es n k' J T H:=⟨k - 1,by omega,i+1,by omega,hJ⟩
end Gv
