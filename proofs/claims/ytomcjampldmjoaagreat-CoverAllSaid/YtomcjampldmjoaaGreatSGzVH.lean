/-
  Part 8 of the proof: what the machine does and what the functions answer.
  Conditions: those that each lemma names.
-/
import Derived.Test.YtomcjampldmjoaaGreatSGzVG
set_option linter.unusedSimpArgs false
set_option linter.unusedVariables false
set_option maxRecDepth 100000
namespace Gv
open Go Go.Proofs
def oM:DF:=⟨.seq (ay [((some 2),.op (.alloc [(.emp 1),(.emp 1),(.emp 1),(.val (.int .i64 0))])),((some 3),.op (.bc (.val (.val (.complex .f64 0 0))))),aH 4 0]) <|
  .seq (ay [ae 9 0,aN 10 70 [9],ae 8 10,bY 11 0 8,bY 12 1 8,bY 13 2 8,((some 5),.op (.alloc [(.emp 1),(.emp 1)])),(none,.op (.store 2 (.tmp 5) (.tmp 11))),ae 6 12,ae 7 13]) <|
  .seq (.seq (ay [ae 14 7,az 15 .neq 14 0]) <|
  .cond (.tmp 15) (.seq (ay [((some 16),.op (.build [(.emp 1),(.emp 1),(.emp 1),(.val (.int .i64 0))] [])),ae 17 6,ae 18 7,(none,.op (.store 4 (.tmp 2) (.tmp 16))),ae 3 17,ae 4 18]) <|
  .ret) (.skip)) <|
  .seq (ay [aU 19 2 5,aN 20 71 [19],bY 21 0 20,bY 22 1 20,bY 23 2 20,(none,.op (.store 4 (.tmp 2) (.tmp 21))),ae 3 22,ae 4 23]) <|
  .ret,
  [.cell 2 (some 4),.tmp 3,.tmp 4],24⟩
theorem tn:bH Tryz.prog 41 []=some oM:=by kernel_rfl
def mZ:DF:=⟨.seq (ay [((some 2),.op (.alloc [(.emp 1),(.emp 1)])),((some 3),.op (.bc (.val (.val (.complex .f64 0 0))))),aH 4 0]) <|
  .seq (ay [ae 9 0,aN 10 120 [9],ae 8 10,bY 11 0 8,bY 12 1 8,bY 13 2 8,ae 5 11,ae 6 12,ae 7 13]) <|
  .seq (.seq (ay [ae 14 7,az 15 .neq 14 0]) <|
  .cond (.tmp 15) (.seq (ay [((some 16),.op (.build [(.emp 1),(.emp 1)] [])),ae 17 6,ae 18 7,(none,.op (.store 2 (.tmp 2) (.tmp 16))),ae 3 17,ae 4 18]) <|
  .ret) (.skip)) <|
  .seq (ay [ae 19 5,ae 20 6,aN 21 121 [19,20],bY 22 0 21,bY 23 1 21,bY 24 2 21,(none,.op (.store 2 (.tmp 2) (.tmp 22))),ae 3 23,ae 4 24]) <|
  .ret,
  [.cell 2 (some 2),.tmp 3,.tmp 4],25⟩
theorem sF:bH Tryz.prog 70 []=some mZ:=by kernel_rfl
def sA:DC :=
  .seq (.seq (.region [] [⟨none,[ae 16 6,ae 17 0,aL 18 17,aR 19 .lss 16 18,ae 20 19]⟩,⟨(some (20,true)),[ae 21 7,az 22 .lss 21 2]⟩,⟨none,[bO 23 20 22]⟩]) <|
  .cond (.tmp 23) (.skip) (.exit 0)) <|
  .block 1 (.seq (ay [ae 25 0,ae 26 6,aN 27 176 [25,26],ae 24 27,bY 28 0 24,bY 29 1 24,ae 8 28,ae 9 29]) <|
  .seq (.seq (ay [ae 30 8,az 31 .lss 30 0]) <|
  .cond (.tmp 31) (.seq (ay [ae 32 0,ae 33 6,aN 34 177 [32,33],((some 2),.op (.bc (.val (.emp 1)))),ae 3 34,aH 4 4]) <|
  .ret) (.skip)) <|
  .seq (.seq (ay [ae 35 9]) <|
  .cond (.tmp 35) (.seq (ay [ae 36 8,ae 6 36]) <|
  .exit 1) (.skip)) <|
  .seq (.region [] [⟨none,[ae 38 0,ae 39 6,aN 40 178 [38,39],ae 37 40,bY 41 0 37,bY 42 1 37,bY 43 2 37,((some 10),.op (.alloc [(.val (.int .i64 0)),(.val (.string ⟨#[]⟩)),(.val (.complex .f64 0 0))])),(none,.op (.store 3 (.tmp 10) (.tmp 41))),ae 11 42,ae 12 43]⟩]) <|
  .seq (.seq (ay [ae 44 12,az 45 .neq 44 0]) <|
  .cond (.tmp 45) (.seq (ay [au 46 2 10,ao 47 46,ae 48 12,((some 2),.op (.bc (.val (.emp 1)))),ae 3 47,ae 4 48]) <|
  .ret) (.skip)) <|
  .seq (.seq (ay [au 49 0 10,ao 50 49,az 51 .eql 50 9]) <|
  .cond (.tmp 51) (ay [ae 52 7,az 53 .add 52 1,ae 7 53]) (.skip)) <|
  .region [] [⟨none,[ae 54 5,aU 55 3 10,((some 56),.op (.bJ 1 3 [(.val (.int .i64 0)),(.val (.string ⟨#[]⟩)),(.val (.complex .f64 0 0))] [(0,(.tmp 55))])),((some 57),.op (.app 3 40 (.tmp 54) (.tmp 56))),ae 58 11,ae 5 57,ae 6 58]⟩])
def mI:DF:=⟨.seq (ay [((some 2),.op (.bc (.val (.emp 1)))),((some 3),.op (.bc (.val (.val (.complex .f64 0 0))))),aH 4 0]) <|
  .seq (.seq (ay [ae 13 0,aL 14 13,az 15 .gtr 14 4000]) <|
  .cond (.tmp 15) (.seq (ay [((some 2),.op (.bc (.val (.emp 1)))),((some 3),.op (.bc (.val (.val (.complex .f64 0 0))))),aH 4 5]) <|
  .ret) (.skip)) <|
  .seq (ay [((some 5),.op (.bc (.val (.emp 1))))]) <|
  .seq (ay [aH 6 0,aH 7 0]) <|
  .seq (.block 0 (.loop sA)) <|
  .seq (ay [ae 59 5,ae 60 0,ae 61 0,aL 62 61,aN 63 177 [60,62],ae 2 59,ae 3 63,aH 4 0]) <|
  .ret,
  [.tmp 2,.tmp 3,.tmp 4],64⟩
theorem rh:bH Tryz.prog 120 []=some mI:=by kernel_rfl
def oI:DF:=⟨.seq (ay [aH 4 0,aV 5 false]) <|
  .seq (.block 0 (.seq (.region [] [⟨none,[ae 7 0,ae 8 1,aP 9 1 7 8,ao 10 9,((some 11),.op (.arith .eql (.tmp 10) (.val (.val (.int .u8 32))))),ae 12 11]⟩,⟨(some (12,false)),[ae 13 0,ae 14 1,aP 15 1 13 14,ao 16 15,((some 17),.op (.arith .eql (.tmp 16) (.val (.val (.int .u8 9)))))]⟩,⟨none,[bC 18 12 17,ae 19 18]⟩,⟨(some (19,false)),[ae 20 0,ae 21 1,aP 22 1 20 21,ao 23 22,((some 24),.op (.arith .eql (.tmp 23) (.val (.val (.int .u8 10)))))]⟩,⟨none,[bC 25 19 24,ae 26 25]⟩,⟨(some (26,false)),[ae 27 0,ae 28 1,aP 29 1 27 28,ao 30 29,((some 31),.op (.arith .eql (.tmp 30) (.val (.val (.int .u8 13)))))]⟩,⟨none,[bC 32 26 31,ae 6 32]⟩]) <|
  .cond (.tmp 6) (.seq (ay [ae 33 1,az 34 .add 33 1,ae 4 34,aV 5 true]) <|
  .ret) (.seq (.region [] [⟨none,[ae 36 0,ae 37 1,cT 38 215 [(.tmp 36),(.tmp 37),(.val (.val (.string ⟨#[47,42]⟩)))],ae 35 38]⟩]) <|
  .cond (.tmp 35) (.seq (.region [] [⟨none,[ae 39 0,ae 40 1,az 41 .add 40 2,cT 42 216 [(.tmp 39),(.tmp 41),(.val (.val (.string ⟨#[42,47]⟩)))],ae 4 42,aV 5 true]⟩]) <|
  .ret) (.seq (.region [] [⟨none,[ae 44 0,ae 45 1,cT 46 215 [(.tmp 44),(.tmp 45),(.val (.val (.string ⟨#[47,47]⟩)))],ae 43 46]⟩]) <|
  .cond (.tmp 43) (.seq (ay [ae 47 0,ae 48 1,aN 49 217 [47,48],ae 4 49,aV 5 true]) <|
  .ret) (.seq (.region [] [⟨none,[ae 51 0,ae 52 1,cT 53 215 [(.tmp 51),(.tmp 52),(.val (.val (.string ⟨#[37,123]⟩)))],ae 50 53]⟩]) <|
  .cond (.tmp 50) (.seq (.region [] [⟨none,[ae 54 0,ae 55 1,az 56 .add 55 2,cT 57 216 [(.tmp 54),(.tmp 56),(.val (.val (.string ⟨#[37,125]⟩)))],ae 4 57,aV 5 true]⟩]) <|
  .ret) (.seq (ay [ae 59 0,ae 60 1,aP 61 1 59 60,ao 62 61,((some 63),.op (.arith .eql (.tmp 62) (.val (.val (.int .u8 60))))),ae 58 63]) <|
  .cond (.tmp 58) (.seq (.region [] [⟨none,[ae 64 0,ae 65 0,ae 66 1,aN 67 217 [65,66],((some 68),.op (.slice 1 (.tmp 64) none (some (.tmp 67)))),ae 69 1,az 70 .add 69 1,cT 71 216 [(.tmp 68),(.tmp 70),(.val (.val (.string ⟨#[62]⟩)))],ae 4 71,aV 5 true]⟩]) <|
  .ret) (.seq (ay [ae 73 0,ae 74 1,aP 75 1 73 74,ao 76 75,((some 77),.op (.arith .eql (.tmp 76) (.val (.val (.int .u8 123))))),ae 72 77]) <|
  .cond (.tmp 72) (.seq (ay [ae 78 0,ae 79 1,aN 80 218 [78,79],ae 4 80,aV 5 true]) <|
  .ret) (.skip)))))))) <|
  .seq (ay [ae 81 1,ae 4 81,aV 5 false]) <|
  .ret,
  [.tmp 4,.tmp 5],82⟩
theorem s8:bH Tryz.prog 176 []=some oI:=by kernel_rfl
def pJ:DF:=⟨.seq (ay [aV 6 false]) <|
  .seq (.region [] [⟨none,[ae 7 1,ae 8 2,((some 9),.op (.gG (.tmp 8))),aR 10 .add 7 9,ae 11 0,aL 12 11,aR 13 .leq 10 12,ae 14 13]⟩,⟨(some (14,true)),[ae 15 0,ae 16 1,ae 17 1,ae 18 2,((some 19),.op (.gG (.tmp 18))),aR 20 .add 17 19,((some 21),.op (.slice 1 (.tmp 15) (some (.tmp 16)) (some (.tmp 20)))),((some 22),.op (.old (.convert 73 9 (.tmp 21)) 9)),ae 23 2,((some 24),.op (.iE .eql (.tmp 22) (.tmp 23)))]⟩,⟨none,[bO 25 14 24,ae 6 25]⟩]) <|
  .ret,
  [.tmp 6],26⟩
theorem uf:bH Tryz.prog 215 []=some pJ:=by kernel_rfl
def uT:DC :=
  .seq (.seq (ay [ae 7 1,ae 8 0,aL 9 8,aR 10 .lss 7 9]) <|
  .cond (.tmp 10) (.skip) (.exit 0)) <|
  .block 1 (.seq (.seq (ay [ae 11 0,ae 12 1,ae 13 2,aN 14 215 [11,12,13]]) <|
  .cond (.tmp 14) (.seq (ay [ae 15 1,ae 16 2,((some 17),.op (.gG (.tmp 16))),aR 18 .add 15 17,ae 6 18]) <|
  .ret) (.skip)) <|
  ay [ae 19 1,az 20 .add 19 1,ae 1 20])
def oy:DF:=⟨.seq (ay [aH 6 0]) <|
  .seq (.block 0 (.loop uT)) <|
  .seq (ay [aH 6 (-1)]) <|
  .ret,
  [.tmp 6],21⟩
theorem tt:bH Tryz.prog 216 []=some oy:=by kernel_rfl
def uL:DC :=
  .seq (.seq (.region [] [⟨none,[ae 5 1,ae 6 0,aL 7 6,aR 8 .lss 5 7,ae 9 8]⟩,⟨(some (9,true)),[ae 10 0,ae 11 1,aP 12 1 10 11,ao 13 12,((some 14),.op (.arith .neq (.tmp 13) (.val (.val (.int .u8 10)))))]⟩,⟨none,[bO 15 9 14]⟩]) <|
  .cond (.tmp 15) (.skip) (.exit 0)) <|
  .block 1 (ay [ae 16 1,az 17 .add 16 1,ae 1 17])
def oN:DF:=⟨.seq (ay [aH 4 0]) <|
  .seq (.block 0 (.loop uL)) <|
  .seq (ay [ae 18 1,ae 4 18]) <|
  .ret,
  [.tmp 4],19⟩
theorem tD:bH Tryz.prog 217 []=some oN:=by kernel_rfl
def sE:DC :=
  .seq (.seq (.region [] [⟨none,[ae 6 1,az 7 .geq 6 0,ae 8 7]⟩,⟨(some (8,true)),[ae 9 1,ae 10 0,aL 11 10,aR 12 .lss 9 11]⟩,⟨none,[bO 13 8 12]⟩]) <|
  .cond (.tmp 13) (.skip) (.exit 0)) <|
  .block 1 (.seq (.seq (ay [ae 14 0,ae 15 1,aP 16 1 14 15,ao 17 16]) <|
  .block 2 (.seq (ay [((some 21),.op (.arith .eql (.tmp 17) (.val (.val (.int .u8 123))))),ae 20 21]) <|
  .cond (.tmp 20) (.seq (ay [ae 22 5,az 23 .add 22 1,ae 5 23]) <|
  ay [ae 24 1,az 25 .add 24 1,ae 1 25]) (.seq (ay [((some 27),.op (.arith .eql (.tmp 17) (.val (.val (.int .u8 125))))),ae 26 27]) <|
  .cond (.tmp 26) (.seq (ay [ae 28 5,az 29 .sub 28 1,ae 5 29]) <|
  ay [ae 30 1,az 31 .add 30 1,ae 1 31]) (.seq (.seq (ay [((some 33),.op (.arith .eql (.tmp 17) (.val (.val (.int .u8 39))))),ae 32 33]) <|
  .cond (.tmp 32) (.skip) (ay [((some 34),.op (.arith .eql (.tmp 17) (.val (.val (.int .u8 34))))),ae 32 34])) <|
  .cond (.tmp 32) (ay [ae 35 0,ae 36 1,aN 37 234 [35,36],ae 1 37]) (ay [ae 18 1,az 19 .add 18 1,ae 1 19]))))) <|
  .seq (.region [] [⟨none,[ae 38 5,az 39 .eql 38 0,ae 40 39]⟩,⟨(some (40,true)),[ae 41 1,az 42 .geq 41 0]⟩,⟨none,[bO 43 40 42]⟩]) <|
  .cond (.tmp 43) (.seq (ay [ae 44 1,ae 4 44]) <|
  .ret) (.skip))
def mj:DF:=⟨.seq (ay [aH 4 0]) <|
  .seq (ay [aH 5 0]) <|
  .seq (.block 0 (.loop sE)) <|
  .seq (ay [aH 4 (-1)]) <|
  .ret,
  [.tmp 4],45⟩
theorem rf:bH Tryz.prog 218 []=some mj:=by kernel_rfl
def sg:DC :=
  .seq (.seq (ay [ae 12 1,ae 13 0,aL 14 13,aR 15 .lss 12 14]) <|
  .cond (.tmp 15) (.skip) (.exit 0)) <|
  .block 1 (.seq (.seq (ay [ae 16 0,ae 17 1,aP 18 1 16 17,ao 19 18,ae 20 5,aR 21 .eql 19 20]) <|
  .cond (.tmp 21) (.seq (ay [ae 22 1,az 23 .add 22 1,ae 4 23]) <|
  .ret) (.skip)) <|
  .seq (.seq (ay [ae 24 0,ae 25 1,aP 26 1 24 25,ao 27 26,((some 28),.op (.arith .eql (.tmp 27) (.val (.val (.int .u8 92)))))]) <|
  .cond (.tmp 28) (ay [ae 29 1,az 30 .add 29 1,ae 1 30]) (.skip)) <|
  ay [ae 31 1,az 32 .add 31 1,ae 1 32])
def lV:DF:=⟨.seq (ay [aH 4 0]) <|
  .seq (ay [ae 6 0,ae 7 1,aP 8 1 6 7,ao 9 8,ae 5 9]) <|
  .seq (ay [ae 10 1,az 11 .add 10 1,ae 1 11]) <|
  .seq (.block 0 (.loop sg)) <|
  .seq (ay [aH 4 (-1)]) <|
  .ret,
  [.tmp 4],33⟩
theorem ra:bH Tryz.prog 234 []=some lV:=by kernel_rfl
def wN:DC :=
  .seq (.seq (ay [ae 16 7,ae 17 1,aR 18 .lss 16 17]) <|
  .cond (.tmp 18) (.skip) (.exit 0)) <|
  .seq (.block 1 (.seq (ay [ae 21 6,az 22 .add 21 1,ae 6 22]) <|
  .seq (ay [ae 23 0,ae 24 7,aP 25 1 23 24,ao 26 25,((some 27),.op (.arith .eql (.tmp 26) (.val (.val (.int .u8 10)))))]) <|
  .cond (.tmp 27) (ay [ae 28 5,az 29 .add 28 1,ae 5 29,aH 6 1]) (.skip))) <|
  ay [ae 19 7,az 20 .add 19 1,ae 7 20]
def qz:DF:=⟨.seq (ay [((some 4),.op (.bc (.val (.val (.complex .f64 0 0)))))]) <|
  .seq (.seq (.region [] [⟨none,[ae 8 1,az 9 .lss 8 0,ae 10 9]⟩,⟨(some (10,false)),[ae 11 1,ae 12 0,aL 13 12,aR 14 .gtr 11 13]⟩,⟨none,[bC 15 10 14]⟩]) <|
  .cond (.tmp 15) (.seq (ay [((some 4),.op (.bc (.val (.val (.complex .f64 0 0)))))]) <|
  .ret) (.skip)) <|
  .seq (ay [aH 5 1,aH 6 1]) <|
  .seq (.seq (ay [aH 7 0]) <|
  .block 0 (.loop wN)) <|
  .seq (ay [ae 30 5,ae 31 6,aN 32 219 [30,31],ae 4 32]) <|
  .ret,
  [.tmp 4],33⟩
theorem vI:bH Tryz.prog 177 []=some qz:=by kernel_rfl
def qS:DF:=⟨.seq (ay [((some 4),.op (.bc (.val (.val (.complex .f64 0 0)))))]) <|
  .seq (.seq (.region [] [⟨none,[ae 5 0,az 6 .lss 5 1,ae 7 6]⟩,⟨(some (7,false)),[ae 8 0,az 9 .gtr 8 1073741824]⟩,⟨none,[bC 10 7 9,ae 11 10]⟩,⟨(some (11,false)),[ae 12 1,az 13 .lss 12 1]⟩,⟨none,[bC 14 11 13,ae 15 14]⟩,⟨(some (15,false)),[ae 16 1,az 17 .gtr 16 1073741824]⟩,⟨none,[bC 18 15 17]⟩]) <|
  .cond (.tmp 18) (.seq (ay [((some 4),.op (.bc (.val (.val (.complex .f64 0 0)))))]) <|
  .ret) (.skip)) <|
  .seq (ay [ae 19 0,((some 20),.op (.old (.convert 3 311 (.tmp 19)) 311)),ae 21 1,((some 22),.op (.old (.convert 3 311 (.tmp 21)) 311)),((some 23),.op (.old (.call { callee:=.builtin .complex,args:=#[(.tmp 20),(.tmp 22)],argTypes:=#[311,311] }) 70)),ae 4 23]) <|
  .ret,
  [.tmp 4],24⟩
theorem vO:bH Tryz.prog 219 []=some qS:=by kernel_rfl
def vK:DC :=
  .seq (.seq (.region [] [⟨none,[ae 27 9,ae 28 0,aL 29 28,aR 30 .lss 27 29,ae 31 30]⟩,⟨(some (31,true)),[ae 32 0,ae 33 9,aP 34 1 32 33,ao 35 34,aN 36 193 [35]]⟩,⟨none,[bO 37 31 36]⟩]) <|
  .cond (.tmp 37) (.skip) (.exit 1)) <|
  .block 2 (ay [ae 38 9,az 39 .add 38 1,ae 9 39])
def vM:DC :=
  .seq (.seq (ay [ae 58 10,az 59 .leq 58 4]) <|
  .cond (.tmp 59) (.skip) (.exit 3)) <|
  .seq (.block 4 (.seq (.region [] [⟨none,[ae 62 1,ae 63 10,aR 64 .add 62 63,ae 65 0,aL 66 65,aR 67 .leq 64 66,ae 68 67]⟩,⟨(some (68,true)),[ae 69 0,ae 70 1,ae 71 1,ae 72 10,aR 73 .add 71 72,((some 74),.op (.slice 1 (.tmp 69) (some (.tmp 70)) (some (.tmp 73)))),((some 75),.op (.old (.convert 73 9 (.tmp 74)) 9)),aN 76 191 [75]]⟩,⟨none,[bO 77 68 76]⟩]) <|
  .cond (.tmp 77) (.seq (.region [(6,8)] [⟨none,[ae 78 0,ae 79 1,ae 80 1,ae 81 10,aR 82 .add 80 81,((some 83),.op (.slice 1 (.tmp 78) (some (.tmp 79)) (some (.tmp 82)))),((some 84),.op (.old (.convert 73 9 (.tmp 83)) 9)),au 85 0 7,(none,.op (.store 1 (.tmp 85) (.val (.val (.int .i64 2))))),au 86 1 7,(none,.op (.store 1 (.tmp 86) (.tmp 84)))]⟩]) <|
  .seq (ay [aU 87 3 7,ae 88 1,ae 89 10,aR 90 .add 88 89,(none,.op (.store 3 (.tmp 4) (.tmp 87))),ae 5 90,aH 6 0]) <|
  .ret) (.skip))) <|
  ay [ae 60 10,az 61 .add 60 1,ae 10 61]
def vN:DC :=
  .seq (.seq (.region [] [⟨none,[ae 108 9,ae 109 0,aL 110 109,aR 111 .lss 108 110,ae 112 111]⟩,⟨(some (112,true)),[ae 113 0,ae 114 9,aP 115 1 113 114,ao 116 115,((some 117),.op (.arith .geq (.tmp 116) (.val (.val (.int .u8 97)))))]⟩,⟨none,[bO 118 112 117,ae 119 118]⟩,⟨(some (119,true)),[ae 120 0,ae 121 9,aP 122 1 120 121,ao 123 122,((some 124),.op (.arith .leq (.tmp 123) (.val (.val (.int .u8 122)))))]⟩,⟨none,[bO 125 119 124]⟩]) <|
  .cond (.tmp 125) (.skip) (.exit 5)) <|
  .block 6 (ay [ae 126 9,az 127 .add 126 1,ae 9 127])
def pK:DF:=⟨.seq (.region [] [⟨none,[((some 4),.op (.alloc [(.val (.int .i64 0)),(.val (.string ⟨#[]⟩)),(.val (.complex .f64 0 0))])),aH 5 0,aH 6 0]⟩]) <|
  .seq (.region [] [⟨none,[ae 11 0,ae 12 1,aN 13 177 [11,12],((some 14),.op (.build [(.val (.int .i64 0)),(.val (.string ⟨#[]⟩)),(.val (.complex .f64 0 0))] [(2,1,(.tmp 13))])),((some 7),.op (.alloc [(.val (.int .i64 0)),(.val (.string ⟨#[]⟩)),(.val (.complex .f64 0 0))])),(none,.op (.store 3 (.tmp 7) (.tmp 14)))]⟩]) <|
  .seq (ay [ae 15 0,ae 16 1,aP 17 1 15 16,ao 18 17,ae 8 18]) <|
  .seq (ay [ae 19 1,az 20 .add 19 1,ae 9 20]) <|
  .seq (.block 0 (.seq (ay [ae 25 8,aN 26 192 [25],ae 24 26]) <|
  .cond (.tmp 24) (.seq (.block 1 (.loop vK)) <|
  .seq (.seq (ay [ae 40 9,ae 41 1,aR 42 .sub 40 41,az 43 .gtr 42 20]) <|
  .cond (.tmp 43) (.seq (ay [aU 44 3 7,ae 45 9,(none,.op (.store 3 (.tmp 4) (.tmp 44))),ae 5 45,aH 6 5]) <|
  .ret) (.skip)) <|
  .seq (.region [(4,6)] [⟨none,[ae 46 0,ae 47 1,ae 48 9,((some 49),.op (.slice 1 (.tmp 46) (some (.tmp 47)) (some (.tmp 48)))),((some 50),.op (.old (.convert 73 9 (.tmp 49)) 9)),au 51 0 7,(none,.op (.store 1 (.tmp 51) (.val (.val (.int .i64 1))))),au 52 1 7,(none,.op (.store 1 (.tmp 52) (.tmp 50)))]⟩]) <|
  .seq (ay [aU 53 3 7,ae 54 9,(none,.op (.store 3 (.tmp 4) (.tmp 53))),ae 5 54,aH 6 0]) <|
  .ret) (.seq (ay [ae 56 8,((some 57),.op (.arith .eql (.tmp 56) (.val (.val (.int .u8 39))))),ae 55 57]) <|
  .cond (.tmp 55) (.seq (.seq (ay [aH 10 3]) <|
  .block 3 (.loop vM)) <|
  .seq (.region [(0,5)] [⟨none,[aU 91 3 7,ae 92 9,ae 93 0,ae 94 1,((some 95),.op (.slice 1 (.tmp 93) (some (.tmp 94)) none)),aN 96 220 [95],(none,.op (.store 3 (.tmp 4) (.tmp 91))),ae 5 92,ae 6 96]⟩]) <|
  .ret) (.seq (.region [] [⟨none,[ae 98 0,ae 99 1,cT 100 215 [(.tmp 98),(.tmp 99),(.val (.val (.string ⟨#[37,37]⟩)))],ae 97 100]⟩]) <|
  .cond (.tmp 97) (.seq (ay [au 101 0 7,(none,.op (.store 1 (.tmp 101) (.val (.val (.int .i64 9)))))]) <|
  .seq (ay [aU 102 3 7,ae 103 1,az 104 .add 103 2,(none,.op (.store 3 (.tmp 4) (.tmp 102))),ae 5 104,aH 6 0]) <|
  .ret) (.seq (ay [ae 106 8,((some 107),.op (.arith .eql (.tmp 106) (.val (.val (.int .u8 37))))),ae 105 107]) <|
  .cond (.tmp 105) (.seq (.block 5 (.loop vN)) <|
  ay [ae 128 0,ae 129 1,az 130 .add 129 1,ae 131 9,((some 132),.op (.slice 1 (.tmp 128) (some (.tmp 130)) (some (.tmp 131)))),((some 133),.op (.old (.convert 73 9 (.tmp 132)) 9)),aN 134 221 [133],au 135 0 7,(none,.op (.store 1 (.tmp 135) (.tmp 134)))]) (ay [ae 21 8,aN 22 222 [21],au 23 0 7,(none,.op (.store 1 (.tmp 23) (.tmp 22)))])))))) <|
  .seq (.seq (ay [au 136 0 7,ao 137 136,az 138 .eql 137 0]) <|
  .cond (.tmp 138) (.seq (ay [aU 139 3 7,ae 140 9,(none,.op (.store 3 (.tmp 4) (.tmp 139))),ae 5 140,aH 6 3]) <|
  .ret) (.skip)) <|
  .seq (ay [aU 141 3 7,ae 142 9,(none,.op (.store 3 (.tmp 4) (.tmp 141))),ae 5 142,aH 6 0]) <|
  .ret,
  [.cell 4 (some 3),.tmp 5,.tmp 6],143⟩
theorem uh:bH Tryz.prog 178 []=some pK:=by kernel_rfl
def nd:DF:=⟨.seq (ay [aV 2 false]) <|
  .seq (.region [] [⟨none,[ae 3 0,aN 4 192 [3],ae 5 4]⟩,⟨(some (5,false)),[ae 6 0,((some 7),.op (.arith .geq (.tmp 6) (.val (.val (.int .u8 48))))),ae 8 7]⟩,⟨(some (8,true)),[ae 9 0,((some 10),.op (.arith .leq (.tmp 9) (.val (.val (.int .u8 57)))))]⟩,⟨(some (5,false)),[bO 11 8 10]⟩,⟨none,[bC 12 5 11,ae 13 12]⟩,⟨(some (13,false)),[ae 14 0,((some 15),.op (.arith .eql (.tmp 14) (.val (.val (.int .u8 46)))))]⟩,⟨none,[bC 16 13 15,ae 2 16]⟩]) <|
  .ret,
  [.tmp 2],17⟩
theorem sD:bH Tryz.prog 193 []=some nd:=by kernel_rfl
def nt:DF:=⟨.seq (ay [aV 2 false]) <|
  .seq (.region [] [⟨none,[ae 3 0,((some 4),.op (.arith .geq (.tmp 3) (.val (.val (.int .u8 97))))),ae 5 4]⟩,⟨(some (5,true)),[ae 6 0,((some 7),.op (.arith .leq (.tmp 6) (.val (.val (.int .u8 122)))))]⟩,⟨none,[bO 8 5 7,ae 9 8]⟩,⟨(some (9,false)),[ae 10 0,((some 11),.op (.arith .geq (.tmp 10) (.val (.val (.int .u8 65))))),ae 12 11]⟩,⟨(some (12,true)),[ae 13 0,((some 14),.op (.arith .leq (.tmp 13) (.val (.val (.int .u8 90)))))]⟩,⟨(some (9,false)),[bO 15 12 14]⟩,⟨none,[bC 16 9 15,ae 17 16]⟩,⟨(some (17,false)),[ae 18 0,((some 19),.op (.arith .eql (.tmp 18) (.val (.val (.int .u8 95)))))]⟩,⟨none,[bC 20 17 19,ae 2 20]⟩]) <|
  .ret,
  [.tmp 2],21⟩
theorem sn:bH Tryz.prog 192 []=some nt:=by kernel_rfl
def lH:DF:=⟨.seq (ay [aV 2 false]) <|
  .seq (.seq (ay [ae 3 0,((some 4),.op (.gG (.tmp 3))),az 5 .eql 4 3]) <|
  .cond (.tmp 5) (.seq (.region [] [⟨none,[ae 6 0,((some 7),.op (.dk (.tmp 6) (.val (.val (.int .i64 0))))),((some 8),.op (.arith .eql (.tmp 7) (.val (.val (.int .u8 39))))),ae 9 8]⟩,⟨(some (9,true)),[ae 10 0,((some 11),.op (.dk (.tmp 10) (.val (.val (.int .i64 2))))),((some 12),.op (.arith .eql (.tmp 11) (.val (.val (.int .u8 39)))))]⟩,⟨none,[bO 13 9 12,ae 14 13]⟩,⟨(some (14,true)),[ae 15 0,((some 16),.op (.dk (.tmp 15) (.val (.val (.int .i64 1))))),((some 17),.op (.arith .geq (.tmp 16) (.val (.val (.int .u8 32)))))]⟩,⟨none,[bO 18 14 17,ae 19 18]⟩,⟨(some (19,true)),[ae 20 0,((some 21),.op (.dk (.tmp 20) (.val (.val (.int .i64 1))))),((some 22),.op (.arith .leq (.tmp 21) (.val (.val (.int .u8 126)))))]⟩,⟨none,[bO 23 19 22,ae 24 23]⟩,⟨(some (24,true)),[ae 25 0,((some 26),.op (.dk (.tmp 25) (.val (.val (.int .i64 1))))),((some 27),.op (.arith .neq (.tmp 26) (.val (.val (.int .u8 39)))))]⟩,⟨none,[bO 28 24 27,ae 29 28]⟩,⟨(some (29,true)),[ae 30 0,((some 31),.op (.dk (.tmp 30) (.val (.val (.int .i64 1))))),((some 32),.op (.arith .neq (.tmp 31) (.val (.val (.int .u8 92)))))]⟩,⟨none,[bO 33 29 32,ae 2 33]⟩]) <|
  .ret) (.skip)) <|
  .seq (.region [] [⟨none,[ae 34 0,((some 35),.op (.gG (.tmp 34))),az 36 .eql 35 4,ae 37 36]⟩,⟨(some (37,true)),[ae 38 0,((some 39),.op (.dk (.tmp 38) (.val (.val (.int .i64 0))))),((some 40),.op (.arith .eql (.tmp 39) (.val (.val (.int .u8 39)))))]⟩,⟨none,[bO 41 37 40,ae 42 41]⟩,⟨(some (42,true)),[ae 43 0,((some 44),.op (.dk (.tmp 43) (.val (.val (.int .i64 3))))),((some 45),.op (.arith .eql (.tmp 44) (.val (.val (.int .u8 39)))))]⟩,⟨none,[bO 46 42 45,ae 47 46]⟩,⟨(some (47,true)),[ae 48 0,((some 49),.op (.dk (.tmp 48) (.val (.val (.int .i64 1))))),((some 50),.op (.arith .eql (.tmp 49) (.val (.val (.int .u8 92)))))]⟩,⟨none,[bO 51 47 50,ae 52 51]⟩,⟨(some (52,true)),[ae 53 0,((some 54),.op (.dk (.tmp 53) (.val (.val (.int .i64 2))))),((some 55),.op (.arith .eql (.tmp 54) (.val (.val (.int .u8 110))))),ae 56 55]⟩,⟨(some (56,false)),[ae 57 0,((some 58),.op (.dk (.tmp 57) (.val (.val (.int .i64 2))))),((some 59),.op (.arith .eql (.tmp 58) (.val (.val (.int .u8 116)))))]⟩,⟨(some (52,true)),[bC 60 56 59,ae 61 60]⟩,⟨(some (61,false)),[ae 62 0,((some 63),.op (.dk (.tmp 62) (.val (.val (.int .i64 2))))),((some 64),.op (.arith .eql (.tmp 63) (.val (.val (.int .u8 92)))))]⟩,⟨(some (52,true)),[bC 65 61 64,ae 66 65]⟩,⟨(some (66,false)),[ae 67 0,((some 68),.op (.dk (.tmp 67) (.val (.val (.int .i64 2))))),((some 69),.op (.arith .eql (.tmp 68) (.val (.val (.int .u8 39)))))]⟩,⟨(some (52,true)),[bC 70 66 69]⟩,⟨none,[bO 71 52 70,ae 2 71]⟩]) <|
  .ret,
  [.tmp 2],72⟩
theorem qW:bH Tryz.prog 191 []=some lH:=by kernel_rfl
def rj:DC :=
  .seq (.seq (ay [ae 6 4,ae 7 3,aL 8 7,aR 9 .lss 6 8]) <|
  .cond (.tmp 9) (.skip) (.exit 0)) <|
  .seq (.block 1 (.seq (.region [(5,9)] [⟨none,[ae 12 0,aL 13 12,az 14 .lss 13 4,ae 15 14]⟩,⟨(some (15,true)),[ae 16 0,((some 17),.op (.old (.convert 73 9 (.tmp 16)) 9)),ae 18 3,ae 19 4,aP 20 1 18 19,ao 21 20,((some 22),.op (.iE .add (.tmp 17) (.tmp 21))),aN 23 191 [22]]⟩,⟨none,[bO 24 15 23]⟩]) <|
  .cond (.tmp 24) (.seq (ay [aH 2 4]) <|
  .ret) (.skip))) <|
  ay [ae 10 4,az 11 .add 10 1,ae 4 11]
def lp:DF:=⟨.seq (ay [aH 2 0]) <|
  .seq (.region [] [⟨none,[((some 5),.op (.bJ 5 1 [(.val (.string ⟨#[]⟩))] [(0,(.val (.val (.string ⟨#[120,39]⟩)))),(1,(.val (.val (.string ⟨#[39]⟩)))),(2,(.val (.val (.string ⟨#[92,110,39]⟩)))),(3,(.val (.val (.string ⟨#[110,39]⟩)))),(4,(.val (.val (.string ⟨#[92,39,39]⟩))))])),ae 3 5]⟩]) <|
  .seq (.seq (ay [aH 4 0]) <|
  .block 0 (.loop rj)) <|
  .seq (ay [aH 2 3]) <|
  .ret,
  [.tmp 2],25⟩
theorem qF:bH Tryz.prog 220 []=some lp:=by kernel_rfl
def lf:DF:=⟨.seq (ay [aH 2 0]) <|
  .seq (.seq (ay [ae 3 0]) <|
  .block 0 (.seq (.region [] [⟨none,[((some 5),.op (.iE .eql (.tmp 3) (.val (.val (.string ⟨#[116,111,107,101,110]⟩))))),ae 4 5]⟩]) <|
  .cond (.tmp 4) (.seq (ay [aH 2 3]) <|
  .ret) (.seq (.region [] [⟨none,[((some 7),.op (.iE .eql (.tmp 3) (.val (.val (.string ⟨#[108,101,102,116]⟩))))),ae 6 7]⟩]) <|
  .cond (.tmp 6) (.seq (ay [aH 2 4]) <|
  .ret) (.seq (.region [] [⟨none,[((some 9),.op (.iE .eql (.tmp 3) (.val (.val (.string ⟨#[114,105,103,104,116]⟩))))),ae 8 9]⟩]) <|
  .cond (.tmp 8) (.seq (ay [aH 2 5]) <|
  .ret) (.seq (.region [] [⟨none,[((some 11),.op (.iE .eql (.tmp 3) (.val (.val (.string ⟨#[110,111,110,97,115,115,111,99]⟩))))),ae 10 11]⟩]) <|
  .cond (.tmp 10) (.seq (ay [aH 2 6]) <|
  .ret) (.seq (.region [] [⟨none,[((some 13),.op (.iE .eql (.tmp 3) (.val (.val (.string ⟨#[115,116,97,114,116]⟩))))),ae 12 13]⟩]) <|
  .cond (.tmp 12) (.seq (ay [aH 2 7]) <|
  .ret) (.seq (.region [] [⟨none,[((some 15),.op (.iE .eql (.tmp 3) (.val (.val (.string ⟨#[112,114,101,99]⟩))))),ae 14 15]⟩]) <|
  .cond (.tmp 14) (.seq (ay [aH 2 8]) <|
  .ret) (.skip)))))))) <|
  .seq (ay [aH 2 0]) <|
  .ret,
  [.tmp 2],16⟩
theorem qI:bH Tryz.prog 221 []=some lf:=by kernel_rfl
def oS:DF:=⟨.seq (ay [aH 2 0]) <|
  .seq (.seq (ay [ae 3 0]) <|
  .block 0 (.seq (ay [((some 5),.op (.arith .eql (.tmp 3) (.val (.val (.int .u8 58))))),ae 4 5]) <|
  .cond (.tmp 4) (.seq (ay [aH 2 10]) <|
  .ret) (.seq (ay [((some 7),.op (.arith .eql (.tmp 3) (.val (.val (.int .u8 124))))),ae 6 7]) <|
  .cond (.tmp 6) (.seq (ay [aH 2 11]) <|
  .ret) (.seq (ay [((some 9),.op (.arith .eql (.tmp 3) (.val (.val (.int .u8 59))))),ae 8 9]) <|
  .cond (.tmp 8) (.seq (ay [aH 2 12]) <|
  .ret) (.skip))))) <|
  .seq (ay [aH 2 0]) <|
  .ret,
  [.tmp 2],10⟩
theorem tM:bH Tryz.prog 222 []=some oS:=by kernel_rfl
def xc:DC :=
  .seq (.seq (.region [] [⟨none,[ae 21 7,bG 22 21,au 23 3 22,ao 24 23,az 25 .eql 24 0,ae 26 25]⟩,⟨(some (26,true)),[ae 27 7,bG 28 27,au 29 0 28,ao 30 29,aL 31 30,az 32 .gtr 31 0]⟩,⟨none,[bO 33 26 32,ae 34 33]⟩,⟨(some (34,true)),[ae 35 7,aN 36 182 [35],az 37 .neq 36 9]⟩,⟨none,[bO 38 34 37]⟩]) <|
  .cond (.tmp 38) (.skip) (.exit 0)) <|
  .block 1 (.region [(1,3)] [⟨none,[au 39 1 8,ao 40 39,ae 41 7,aN 42 181 [41],((some 43),.op (.app 5 88 (.tmp 40) (.tmp 42))),au 44 1 8,(none,.op (.store 1 (.tmp 44) (.tmp 43)))]⟩])
def q9:DF:=⟨.seq (ay [((some 4),.op (.alloc [(.emp 1),(.emp 1)])),((some 5),.op (.bc (.val (.val (.complex .f64 0 0))))),aH 6 0]) <|
  .seq (ay [ae 9 0,ae 10 1,((some 11),.op (.build [(.emp 1),(.val (.complex .f64 0 0)),(.val (.complex .f64 0 0)),(.val (.int .i64 0))] [(0,1,(.tmp 9)),(1,1,(.tmp 10))])),((some 12),.op (.box (.tmp 11))),ae 7 12]) <|
  .seq (ay [ae 13 7,aN 14 179 [13],((some 15),.op (.build [(.emp 1),(.emp 1)] [(0,1,(.tmp 14))])),((some 8),.op (.alloc [(.emp 1),(.emp 1)])),(none,.op (.store 2 (.tmp 8) (.tmp 15)))]) <|
  .seq (ay [ae 16 7,cT 17 180 [(.tmp 16),(.val (.val (.int .i64 9))),(.val (.val (.int .i64 9)))]]) <|
  .seq (ay [ae 18 7,aN 19 181 [18],au 20 1 8,(none,.op (.store 1 (.tmp 20) (.tmp 19)))]) <|
  .seq (.block 0 (.loop xc)) <|
  .seq (.seq (.region [] [⟨none,[ae 45 7,bG 46 45,au 47 3 46,ao 48 47,az 49 .eql 48 0,ae 50 49]⟩,⟨(some (50,true)),[ae 51 7,bG 52 51,au 53 0 52,ao 54 53,aL 55 54,az 56 .gtr 55 0]⟩,⟨none,[bO 57 50 56]⟩]) <|
  .cond (.tmp 57) (ay [ae 58 7,cT 59 180 [(.tmp 58),(.val (.val (.int .i64 9))),(.val (.val (.int .i64 9)))]]) (.skip)) <|
  .seq (.seq (ay [ae 60 7,bG 61 60,au 62 0 61,ao 63 62,aL 64 63,az 65 .gtr 64 0]) <|
  .cond (.tmp 65) (ay [ae 66 7,aN 67 183 [66]]) (.skip)) <|
  .seq (.seq (ay [ae 68 7,bG 69 68,au 70 3 69,ao 71 70,az 72 .neq 71 0]) <|
  .cond (.tmp 72) (.seq (.region [(4,9),(8,9)] [⟨none,[((some 73),.op (.build [(.emp 1),(.emp 1)] [])),ae 74 7,bG 75 74,au 76 2 75,ao 77 76,ae 78 7,bG 79 78,au 80 3 79,ao 81 80,(none,.op (.store 2 (.tmp 4) (.tmp 73))),ae 5 77,ae 6 81]⟩]) <|
  .ret) (.skip)) <|
  .seq (ay [aU 82 2 8,(none,.op (.store 2 (.tmp 4) (.tmp 82))),((some 5),.op (.bc (.val (.val (.complex .f64 0 0))))),aH 6 0]) <|
  .ret,
  [.cell 4 (some 2),.tmp 5,.tmp 6],83⟩
theorem vL:bH Tryz.prog 121 []=some q9:=by kernel_rfl
def je:DF:=⟨.seq (ay [aH 2 0]) <|
  .seq (.seq (.region [] [⟨none,[ae 3 0,bG 4 3,au 5 3 4,ao 6 5,az 7 .neq 6 0,ae 8 7]⟩,⟨(some (8,false)),[ae 9 0,bG 10 9,au 11 0 10,ao 12 11,aL 13 12,az 14 .eql 13 0]⟩,⟨none,[bC 15 8 14]⟩]) <|
  .cond (.tmp 15) (.seq (ay [aH 2 0]) <|
  .ret) (.skip)) <|
  .seq (ay [ae 16 0,bG 17 16,au 18 0 17,ao 19 18,((some 20),.op (.idx 3 (.tmp 19) (.val (.val (.int .i64 0))))),au 21 0 20,ao 22 21,ae 2 22]) <|
  .ret,
  [.tmp 2],23⟩
theorem nF:bH Tryz.prog 182 []=some je:=by kernel_rfl
def nH:DC :=
  .seq (.seq (ay [ae 10 0,bG 11 10,au 12 3 11,ao 13 12,az 14 .eql 13 0]) <|
  .cond (.tmp 14) (.skip) (.exit 0)) <|
  .block 1 (.seq (.region [(0,2),(2,4)] [⟨none,[aU 15 2 4,ae 16 0,aN 17 223 [16],((some 18),.op (.build [(.val (.string ⟨#[]⟩)),(.val (.complex .f64 0 0)),(.emp 1),(.val (.string ⟨#[]⟩)),(.val (.complex .f64 0 0))] [(0,2,(.tmp 15)),(2,1,(.tmp 17))])),((some 5),.op (.alloc [(.val (.string ⟨#[]⟩)),(.val (.complex .f64 0 0)),(.emp 1),(.val (.string ⟨#[]⟩)),(.val (.complex .f64 0 0))])),(none,.op (.store 5 (.tmp 5) (.tmp 18)))]⟩]) <|
  .seq (.seq (ay [ae 19 0,cT 20 224 [(.tmp 19),(.val (.val (.int .i64 8))),(.val (.val (.int .i64 8)))]]) <|
  .cond (.tmp 20) (.seq (ay [ae 21 0,cT 22 180 [(.tmp 21),(.val (.val (.int .i64 8))),(.val (.val (.int .i64 8)))]]) <|
  ay [ae 23 0,cT 24 180 [(.tmp 23),(.val (.val (.int .i64 1))),(.val (.val (.int .i64 2)))],au 25 3 5,(none,.op (.store 2 (.tmp 25) (.tmp 24)))]) (.skip)) <|
  .seq (.region [] [⟨none,[ae 26 3,aU 27 5 5,((some 28),.op (.bJ 1 5 [(.val (.string ⟨#[]⟩)),(.val (.complex .f64 0 0)),(.emp 1),(.val (.string ⟨#[]⟩)),(.val (.complex .f64 0 0))] [(0,(.tmp 27))])),((some 29),.op (.app 5 88 (.tmp 26) (.tmp 28))),ae 3 29]⟩]) <|
  .seq (.seq (ay [ae 30 0,cT 31 224 [(.tmp 30),(.val (.val (.int .i64 11))),(.val (.val (.int .i64 11)))],bZ 32 31]) <|
  .cond (.tmp 32) (.seq (ay [ae 33 0,cT 34 180 [(.tmp 33),(.val (.val (.int .i64 12))),(.val (.val (.int .i64 12)))]]) <|
  .seq (ay [ae 35 3,ae 2 35]) <|
  .ret) (.skip)) <|
  ay [ae 36 0,cT 37 180 [(.tmp 36),(.val (.val (.int .i64 11))),(.val (.val (.int .i64 11)))]])
def iD:DF:=⟨.seq (ay [((some 2),.op (.bc (.val (.emp 1))))]) <|
  .seq (ay [((some 3),.op (.bc (.val (.emp 1))))]) <|
  .seq (.region [] [⟨none,[ae 6 0,cT 7 180 [(.tmp 6),(.val (.val (.int .i64 1))),(.val (.val (.int .i64 1)))],((some 4),.op (.alloc [(.val (.string ⟨#[]⟩)),(.val (.complex .f64 0 0))])),(none,.op (.store 2 (.tmp 4) (.tmp 7)))]⟩]) <|
  .seq (ay [ae 8 0,cT 9 180 [(.tmp 8),(.val (.val (.int .i64 10))),(.val (.val (.int .i64 10)))]]) <|
  .seq (.block 0 (.loop nH)) <|
  .seq (ay [ae 38 3,ae 2 38]) <|
  .ret,
  [.tmp 2],39⟩
theorem mV:bH Tryz.prog 181 []=some iD:=by kernel_rfl
def oK:DC :=
  .seq (.seq (ay [ae 4 0,cT 5 224 [(.tmp 4),(.val (.val (.int .i64 1))),(.val (.val (.int .i64 2)))]]) <|
  .cond (.tmp 5) (.skip) (.exit 0)) <|
  .block 1 (.region [] [⟨none,[ae 6 3,ae 7 0,cT 8 180 [(.tmp 7),(.val (.val (.int .i64 1))),(.val (.val (.int .i64 2)))],((some 9),.op (.bJ 1 2 [(.val (.string ⟨#[]⟩)),(.val (.complex .f64 0 0))] [(0,(.tmp 8))])),((some 10),.op (.app 2 32 (.tmp 6) (.tmp 9))),ae 3 10]⟩])
def jk:DF:=⟨.seq (ay [((some 2),.op (.bc (.val (.emp 1))))]) <|
  .seq (ay [((some 3),.op (.bc (.val (.emp 1))))]) <|
  .seq (.block 0 (.loop oK)) <|
  .seq (ay [ae 11 3,ae 2 11]) <|
  .ret,
  [.tmp 2],12⟩
theorem nE:bH Tryz.prog 223 []=some jk:=by kernel_rfl
def kg:DF:=⟨.seq (ay [aV 6 false]) <|
  .seq (.region [] [⟨none,[ae 7 0,bG 8 7,au 9 0 8,ao 10 9,aL 11 10,az 12 .gtr 11 0,ae 13 12]⟩,⟨(some (13,true)),[ae 14 0,aN 15 182 [14],ae 16 1,aR 17 .eql 15 16,ae 18 17]⟩,⟨(some (18,false)),[ae 19 0,aN 20 182 [19],ae 21 2,aR 22 .eql 20 21]⟩,⟨(some (13,true)),[bC 23 18 22]⟩,⟨none,[bO 24 13 23,ae 6 24]⟩]) <|
  .ret,
  [.tmp 6],25⟩
theorem px:bH Tryz.prog 224 []=some kg:=by kernel_rfl
def jj:DF:=⟨.seq (.region [] [⟨none,[((some 6),.op (.alloc [(.val (.string ⟨#[]⟩)),(.val (.complex .f64 0 0))]))]⟩]) <|
  .seq (.seq (.region [] [⟨none,[ae 8 0,bG 9 8,au 10 3 9,ao 11 10,az 12 .neq 11 0,ae 13 12]⟩,⟨(some (13,false)),[ae 14 0,ae 15 1,ae 16 2,aN 17 224 [14,15,16],bZ 18 17]⟩,⟨none,[bC 19 13 18]⟩]) <|
  .cond (.tmp 19) (.seq (ay [ae 20 0,aN 21 183 [20]]) <|
  .seq (.region [] [⟨none,[((some 22),.op (.build [(.val (.string ⟨#[]⟩)),(.val (.complex .f64 0 0))] [])),(none,.op (.store 2 (.tmp 6) (.tmp 22)))]⟩]) <|
  .ret) (.skip)) <|
  .seq (.region [] [⟨none,[ae 23 0,bG 24 23,au 25 0 24,ao 26 25,((some 27),.op (.idx 3 (.tmp 26) (.val (.val (.int .i64 0))))),aU 28 3 27,((some 7),.op (.alloc [(.val (.int .i64 0)),(.val (.string ⟨#[]⟩)),(.val (.complex .f64 0 0))])),(none,.op (.store 3 (.tmp 7) (.tmp 28)))]⟩]) <|
  .seq (ay [ae 29 0,ae 30 0,bG 31 30,au 32 0 31,ao 33 32,((some 34),.op (.slice 3 (.tmp 33) (some (.val (.val (.int .i64 1)))) none)),bG 35 29,au 36 0 35,(none,.op (.store 1 (.tmp 36) (.tmp 34)))]) <|
  .seq (.region [] [⟨none,[au 37 1 7,ao 38 37,au 39 2 7,ao 40 39,((some 41),.op (.build [(.val (.string ⟨#[]⟩)),(.val (.complex .f64 0 0))] [(0,1,(.tmp 38)),(1,1,(.tmp 40))])),(none,.op (.store 2 (.tmp 6) (.tmp 41)))]⟩]) <|
  .ret,
  [.cell 6 (some 2)],42⟩
theorem nL:bH Tryz.prog 180 []=some jj:=by kernel_rfl
def jn:DF:=⟨.seq (.seq (ay [ae 2 0,bG 3 2,au 4 3 3,ao 5 4,az 6 .neq 5 0]) <|
  .cond (.tmp 6) (.ret) (.skip)) <|
  .seq (ay [ae 7 0,ae 8 0,ae 9 0,bG 10 9,au 11 1 10,ao 12 11,bG 13 7,au 14 2 13,(none,.op (.store 1 (.tmp 14) (.tmp 12))),bG 15 8,au 16 3 15,(none,.op (.store 1 (.tmp 16) (.val (.val (.int .i64 4)))))]) <|
  .seq (ay [ae 17 0,bG 18 17,au 19 0 18,ao 20 19,aL 21 20,az 22 .gtr 21 0]) <|
  .cond (.tmp 22) (ay [ae 23 0,ae 24 0,ae 25 0,bG 26 25,au 27 0 26,ao 28 27,((some 29),.op (.idx 3 (.tmp 28) (.val (.val (.int .i64 0))))),au 30 2 29,ao 31 30,bG 32 23,au 33 2 32,(none,.op (.store 1 (.tmp 33) (.tmp 31))),bG 34 24,au 35 3 34,(none,.op (.store 1 (.tmp 35) (.val (.val (.int .i64 3)))))]) (.skip),
  [],36⟩
theorem n0:bH Tryz.prog 183 []=some jn:=by kernel_rfl
def nV:DC :=
  .seq (.seq (.region [] [⟨none,[ae 6 0,bG 7 6,au 8 3 7,ao 9 8,az 10 .eql 9 0,ae 11 10]⟩,⟨(some (11,true)),[ae 12 0,bG 13 12,au 14 0 13,ao 15 14,aL 16 15,az 17 .gtr 16 0]⟩,⟨none,[bO 18 11 17,ae 19 18]⟩,⟨(some (19,true)),[ae 20 0,aN 21 182 [20],az 22 .neq 21 9]⟩,⟨none,[bO 23 19 22]⟩]) <|
  .cond (.tmp 23) (.skip) (.exit 0)) <|
  .block 1 (.seq (ay [ae 24 0,aN 25 182 [24],ae 4 25]) <|
  .seq (.seq (ay [ae 26 4,az 27 .eql 26 7]) <|
  .cond (.tmp 27) (.seq (ay [ae 28 0,ae 29 4,ae 30 4,aN 31 180 [28,29,30]]) <|
  .seq (.region [] [⟨none,[ae 32 3,ae 33 4,ae 34 0,cT 35 180 [(.tmp 34),(.val (.val (.int .i64 1))),(.val (.val (.int .i64 1)))],((some 36),.op (.bJ 1 2 [(.val (.string ⟨#[]⟩)),(.val (.complex .f64 0 0))] [(0,(.tmp 35))])),((some 37),.op (.build [(.val (.int .i64 0)),(.emp 1)] [(0,1,(.tmp 33)),(1,1,(.tmp 36))])),((some 38),.op (.bJ 1 2 [(.val (.int .i64 0)),(.emp 1)] [(0,(.tmp 37))])),((some 39),.op (.app 2 32 (.tmp 32) (.tmp 38))),ae 3 39]⟩]) <|
  .exit 1) (.skip)) <|
  .seq (.seq (.region [] [⟨none,[ae 40 4,az 41 .neq 40 3,ae 42 41]⟩,⟨(some (42,true)),[ae 43 4,az 44 .neq 43 4]⟩,⟨none,[bO 45 42 44,ae 46 45]⟩,⟨(some (46,true)),[ae 47 4,az 48 .neq 47 5]⟩,⟨none,[bO 49 46 48,ae 50 49]⟩,⟨(some (50,true)),[ae 51 4,az 52 .neq 51 6]⟩,⟨none,[bO 53 50 52]⟩]) <|
  .cond (.tmp 53) (.seq (ay [ae 54 0,aN 55 183 [54]]) <|
  .exit 1) (.skip)) <|
  .seq (ay [ae 56 0,ae 57 4,ae 58 4,aN 59 180 [56,57,58]]) <|
  .seq (.region [] [⟨none,[ae 60 0,cT 61 180 [(.tmp 60),(.val (.val (.int .i64 1))),(.val (.val (.int .i64 2)))],((some 5),.op (.alloc [(.val (.string ⟨#[]⟩)),(.val (.complex .f64 0 0))])),(none,.op (.store 2 (.tmp 5) (.tmp 61)))]⟩]) <|
  .region [(2,5),(3,5)] [⟨none,[ae 62 3,ae 63 4,aU 64 2 5,((some 65),.op (.bJ 1 2 [(.val (.string ⟨#[]⟩)),(.val (.complex .f64 0 0))] [(0,(.tmp 64))])),ae 66 0,aN 67 223 [66],((some 68),.op (.app 2 32 (.tmp 65) (.tmp 67))),((some 69),.op (.build [(.val (.int .i64 0)),(.emp 1)] [(0,1,(.tmp 63)),(1,1,(.tmp 68))])),((some 70),.op (.bJ 1 2 [(.val (.int .i64 0)),(.emp 1)] [(0,(.tmp 69))])),((some 71),.op (.app 2 32 (.tmp 62) (.tmp 70))),ae 3 71]⟩])
def iG:DF:=⟨.seq (ay [((some 2),.op (.bc (.val (.emp 1))))]) <|
  .seq (ay [((some 3),.op (.bc (.val (.emp 1))))]) <|
  .seq (.block 0 (.loop nV)) <|
  .seq (ay [ae 72 3,ae 2 72]) <|
  .ret,
  [.tmp 2],73⟩
theorem mX:bH Tryz.prog 179 []=some iG:=by kernel_rfl
def tK:DC :=
  .seq (.seq (.region [] [⟨none,[ae 17 6,au 18 1 1,ao 19 18,aL 20 19,aR 21 .lss 17 20,ae 22 21]⟩,⟨(some (22,true)),[ae 23 5,bG 24 23,au 25 10 24,ao 26 25,az 27 .eql 26 0]⟩,⟨none,[bO 28 22 27]⟩]) <|
  .cond (.tmp 28) (.skip) (.exit 0)) <|
  .seq (.block 1 (ay [ae 31 5,au 32 1 1,ao 33 32,ae 34 6,aP 35 5 33 34,aU 36 5 35,aN 37 124 [31,36]])) <|
  ay [ae 29 6,az 30 .add 29 1,ae 6 30]
def m6:DF:=⟨.seq (ay [cM 1 0,((some 2),.op (.alloc [(.emp 1),(.emp 1),(.emp 1),(.val (.int .i64 0))])),((some 3),.op (.bc (.val (.val (.complex .f64 0 0))))),aH 4 0]) <|
  .seq (.region [] [⟨none,[((some 7),.op (.build [(.emp 1),(.emp 1),(.emp 1),(.val (.int .i64 0)),(.emp 1),(.val (.string ⟨#[]⟩)),(.val (.complex .f64 0 0)),(.val (.bool false)),(.val (.int .i64 0)),(.val (.complex .f64 0 0)),(.val (.int .i64 0))] [])),((some 8),.op (.box (.tmp 7))),ae 5 8]⟩]) <|
  .seq (ay [ae 9 5,au 10 0 1,ao 11 10,aN 12 122 [9,11]]) <|
  .seq (ay [ae 13 5,au 14 1 1,ao 15 14,aN 16 123 [13,15]]) <|
  .seq (.seq (ay [aH 6 0]) <|
  .block 0 (.loop tK)) <|
  .seq (.seq (.region [] [⟨none,[ae 38 5,bG 39 38,au 40 7 39,ao 41 40,ae 42 41]⟩,⟨(some (42,true)),[ae 43 5,bG 44 43,au 45 0 44,aU 46 4 45,ae 47 5,bG 48 47,au 49 5 48,au 50 0 49,ao 51 50,aN 52 125 [46,51],az 53 .lss 52 0]⟩,⟨none,[bO 54 42 53]⟩]) <|
  .cond (.tmp 54) (ay [ae 55 5,ae 56 5,bG 57 56,au 58 5 57,aU 59 2 58,cT 60 126 [(.tmp 55),(.tmp 59),(.val (.val (.int .i64 8)))]]) (.skip)) <|
  .seq (.seq (ay [au 61 1 1,ao 62 61,aL 63 62,az 64 .eql 63 0]) <|
  .cond (.tmp 64) (.region [] [⟨none,[ae 65 5,((some 66),.op (.build [(.val (.string ⟨#[]⟩)),(.val (.complex .f64 0 0))] [])),cT 67 126 [(.tmp 65),(.tmp 66),(.val (.val (.int .i64 8)))]]⟩]) (.skip)) <|
  .seq (.seq (ay [ae 68 5,bG 69 68,au 70 10 69,ao 71 70,az 72 .neq 71 0]) <|
  .cond (.tmp 72) (.seq (.region [(4,9),(8,9)] [⟨none,[((some 73),.op (.build [(.emp 1),(.emp 1),(.emp 1),(.val (.int .i64 0))] [])),ae 74 5,bG 75 74,au 76 9 75,ao 77 76,ae 78 5,bG 79 78,au 80 10 79,ao 81 80,(none,.op (.store 4 (.tmp 2) (.tmp 73))),ae 3 77,ae 4 81]⟩]) <|
  .ret) (.skip)) <|
  .seq (.seq (ay [ae 82 5,bG 83 82,au 84 7 83,ao 85 84]) <|
  .cond (.tmp 85) (ay [ae 86 5,ae 87 5,bG 88 87,au 89 0 88,aU 90 4 89,ae 91 5,bG 92 91,au 93 5 92,au 94 0 93,ao 95 94,aN 96 125 [90,95],bG 97 86,au 98 0 97,au 99 3 98,(none,.op (.store 1 (.tmp 99) (.tmp 96)))]) (.skip)) <|
  .seq (ay [ae 100 5,bG 101 100,au 102 0 101,aU 103 4 102,(none,.op (.store 4 (.tmp 2) (.tmp 103))),((some 3),.op (.bc (.val (.val (.complex .f64 0 0))))),aH 4 0]) <|
  .ret,
  [.cell 2 (some 4),.tmp 3,.tmp 4],104⟩
theorem sk:bH Tryz.prog 71 [1]=some m6:=by kernel_rfl
def p7:DC :=
  .seq (.seq (.region [] [⟨none,[ae 28 5,au 29 2 3,ao 30 29,aL 31 30,aR 32 .lss 28 31,ae 33 32]⟩,⟨(some (33,true)),[ae 34 0,bG 35 34,au 36 10 35,ao 37 36,az 38 .eql 37 0]⟩,⟨none,[bO 39 33 38]⟩]) <|
  .cond (.tmp 39) (.skip) (.exit 0)) <|
  .seq (.block 1 (.seq (.region [] [⟨none,[au 42 2 3,ao 43 42,ae 44 5,aP 45 2 43 44,aU 46 2 45,((some 6),.op (.alloc [(.val (.string ⟨#[]⟩)),(.val (.complex .f64 0 0))])),(none,.op (.store 2 (.tmp 6) (.tmp 46)))]⟩]) <|
  .seq (.seq (ay [au 47 0 6,ao 48 47,aN 49 139 [48],bZ 50 49]) <|
  .cond (.tmp 50) (.seq (ay [ae 51 0,aU 52 2 6,cT 53 126 [(.tmp 51),(.tmp 52),(.val (.val (.int .i64 3)))]]) <|
  .ret) (.skip)) <|
  .seq (.seq (ay [ae 54 5,az 55 .eql 54 6]) <|
  .cond (.tmp 55) (.seq (ay [ae 56 0,aU 57 2 6,cT 58 126 [(.tmp 56),(.tmp 57),(.val (.val (.int .i64 5)))]]) <|
  .ret) (.skip)) <|
  .seq (ay [ae 59 0,aU 60 2 6,cT 61 185 [(.tmp 59),(.tmp 60),(.val (.val (.bool true)))],ae 7 61]) <|
  .seq (ay [au 62 1 4,ao 63 62,ae 64 7,((some 65),.op (.bJ 1 1 [(.val (.int .i64 0))] [(0,(.tmp 64))])),((some 66),.op (.app 1 8 (.tmp 63) (.tmp 65))),au 67 1 4,(none,.op (.store 1 (.tmp 67) (.tmp 66)))]) <|
  .seq (ay [ae 68 7,az 69 .geq 68 0]) <|
  .cond (.tmp 69) (ay [ae 70 7,au 71 2 4,(none,.op (.store 1 (.tmp 71) (.tmp 70)))]) (.skip))) <|
  ay [ae 40 5,az 41 .add 40 1,ae 5 41]
def kf:DF:=⟨.seq (ay [cM 3 1]) <|
  .seq (.region [(7,9)] [⟨none,[ae 8 0,bG 9 8,au 10 0 9,aU 11 4 10,au 12 0 3,au 13 0 12,ao 14 13,aN 15 125 [11,14],((some 16),.op (.build [(.val (.int .i64 0)),(.emp 1),(.val (.int .i64 0))] [(0,1,(.tmp 15)),(2,1,(.val (.val (.int .i64 (-1)))))])),((some 4),.op (.alloc [(.val (.int .i64 0)),(.emp 1),(.val (.int .i64 0))])),(none,.op (.store 3 (.tmp 4) (.tmp 16)))]⟩]) <|
  .seq (.seq (ay [ae 17 0,bG 18 17,au 19 0 18,au 20 2 19,ao 21 20,aL 22 21,az 23 .eql 22 40]) <|
  .cond (.tmp 23) (ay [ae 24 0,au 25 0 3,aU 26 2 25,cT 27 126 [(.tmp 24),(.tmp 26),(.val (.val (.int .i64 5)))]]) (.skip)) <|
  .seq (.seq (ay [aH 5 0]) <|
  .block 0 (.loop p7)) <|
  .seq (.seq (.region [] [⟨none,[au 72 3 3,au 73 0 72,ao 74 73,((some 75),.op (.iE .neq (.tmp 74) (.val (.val (.string ⟨#[]⟩))))),ae 76 75]⟩,⟨(some (76,true)),[ae 77 0,bG 78 77,au 79 10 78,ao 80 79,az 81 .eql 80 0]⟩,⟨none,[bO 82 76 81]⟩]) <|
  .cond (.tmp 82) (.seq (.seq (ay [au 83 3 3,au 84 0 83,ao 85 84,aN 86 139 [85],bZ 87 86]) <|
  .cond (.tmp 87) (.seq (ay [ae 88 0,au 89 3 3,aU 90 2 89,cT 91 126 [(.tmp 88),(.tmp 90),(.val (.val (.int .i64 3)))]]) <|
  .ret) (.skip)) <|
  ay [ae 92 0,au 93 3 3,aU 94 2 93,cT 95 185 [(.tmp 92),(.tmp 94),(.val (.val (.bool false)))],au 96 2 4,(none,.op (.store 1 (.tmp 96) (.tmp 95)))]) (.skip)) <|
  ay [ae 97 0,ae 98 0,bG 99 98,au 100 0 99,au 101 2 100,ao 102 101,aU 103 3 4,((some 104),.op (.bJ 1 3 [(.val (.int .i64 0)),(.emp 1),(.val (.int .i64 0))] [(0,(.tmp 103))])),((some 105),.op (.app 3 40 (.tmp 102) (.tmp 104))),bG 106 97,au 107 0 106,au 108 2 107,(none,.op (.store 1 (.tmp 108) (.tmp 105)))],
  [],109⟩
theorem pz:bH Tryz.prog 124 [3]=some kf:=by kernel_rfl
def nr:DF:=⟨.seq (ay [aV 2 false]) <|
  .seq (.region [] [⟨none,[ae 3 0,aN 4 142 [3],ae 5 4]⟩,⟨(some (5,false)),[ae 6 0,aN 7 191 [6]]⟩,⟨none,[bC 8 5 7,ae 2 8]⟩]) <|
  .ret,
  [.tmp 2],9⟩
theorem sx:bH Tryz.prog 139 []=some nr:=by kernel_rfl
def uy:DC :=
  .seq (.seq (ay [ae 18 3,ae 19 0,((some 20),.op (.gG (.tmp 19))),aR 21 .lss 18 20]) <|
  .cond (.tmp 21) (.skip) (.exit 0)) <|
  .seq (.block 1 (.seq (ay [ae 24 0,ae 25 3,((some 26),.op (.dk (.tmp 24) (.tmp 25))),aN 27 193 [26],bZ 28 27]) <|
  .cond (.tmp 28) (.seq (ay [aV 2 false]) <|
  .ret) (.skip))) <|
  ay [ae 22 3,az 23 .add 22 1,ae 3 23]
def pf:DF:=⟨.seq (ay [aV 2 false]) <|
  .seq (.seq (.region [] [⟨none,[ae 4 0,((some 5),.op (.gG (.tmp 4))),az 6 .eql 5 0,ae 7 6]⟩,⟨(some (7,false)),[ae 8 0,((some 9),.op (.gG (.tmp 8))),az 10 .gtr 9 20]⟩,⟨none,[bC 11 7 10,ae 12 11]⟩,⟨(some (12,false)),[ae 13 0,((some 14),.op (.dk (.tmp 13) (.val (.val (.int .i64 0))))),aN 15 192 [14],bZ 16 15]⟩,⟨none,[bC 17 12 16]⟩]) <|
  .cond (.tmp 17) (.seq (ay [aV 2 false]) <|
  .ret) (.skip)) <|
  .seq (.seq (ay [aH 3 0]) <|
  .block 0 (.loop uy)) <|
  .seq (ay [aV 2 true]) <|
  .ret,
  [.tmp 2],29⟩
theorem tH:bH Tryz.prog 142 []=some pf:=by kernel_rfl
def ki:DF:=⟨.seq (ay [cM 4 1]) <|
  .seq (ay [ae 6 0,bG 7 6,au 8 10 7,ao 9 8,az 10 .eql 9 0]) <|
  .cond (.tmp 10) (ay [ae 11 0,ae 12 0,au 13 1 4,ao 14 13,ae 15 2,bG 16 11,au 17 9 16,(none,.op (.store 1 (.tmp 17) (.tmp 14))),bG 18 12,au 19 10 18,(none,.op (.store 1 (.tmp 19) (.tmp 15)))]) (.skip),
  [],20⟩
theorem pD:bH Tryz.prog 126 [4]=some ki:=by kernel_rfl
def jb:DF:=⟨.seq (ay [cM 4 1,aH 6 0]) <|
  .seq (ay [ae 8 0,bG 9 8,au 10 0 9,aU 11 4 10,au 12 0 4,ao 13 12,aN 14 125 [11,13],ae 7 14]) <|
  .seq (.block 0 (.seq (.region [] [⟨none,[ae 19 7,az 20 .geq 19 0,ae 21 20]⟩,⟨(some (21,true)),[ae 22 2]⟩,⟨none,[bO 23 21 22,ae 18 23]⟩]) <|
  .cond (.tmp 18) (.seq (ay [ae 24 7,((some 25),.op (.arith .sub (.val (.val (.int .i64 (-1)))) (.tmp 24))),ae 6 25]) <|
  .ret) (.seq (ay [ae 27 7,az 28 .geq 27 0,ae 26 28]) <|
  .cond (.tmp 26) (ay [ae 29 0,aU 30 2 4,cT 31 126 [(.tmp 29),(.tmp 30),(.val (.val (.int .i64 6)))]]) (.seq (.region [] [⟨none,[ae 33 0,bG 34 33,au 35 0 34,aU 36 4 35,au 37 0 4,ao 38 37,aN 39 140 [36,38],az 40 .geq 39 0,ae 41 40]⟩,⟨(some (41,false)),[au 42 0 4,ao 43 42,aN 44 191 [43]]⟩,⟨none,[bC 45 41 44,ae 46 45]⟩,⟨(some (46,false)),[au 47 0 4,ao 48 47,((some 49),.op (.iE .eql (.tmp 48) (.val (.val (.string ⟨#[101,114,114,111,114]⟩)))))]⟩,⟨none,[bC 50 46 49,ae 32 50]⟩]) <|
  .cond (.tmp 32) (.seq (ay [ae 51 0,aU 52 2 4,aN 53 226 [51,52],ae 6 53]) <|
  .ret) (ay [ae 15 0,aU 16 2 4,cT 17 126 [(.tmp 15),(.tmp 16),(.val (.val (.int .i64 6)))]]))))) <|
  .seq (ay [aH 6 0]) <|
  .ret,
  [.tmp 6],54⟩
theorem nY:bH Tryz.prog 185 [4]=some jb:=by kernel_rfl
def vG:DC :=
  .seq (.seq (ay [ae 6 5,au 7 1 2,ao 8 7,aL 9 8,aR 10 .lss 6 9]) <|
  .cond (.tmp 10) (.skip) (.exit 0)) <|
  .seq (.block 1 (.seq (ay [au 13 1 2,ao 14 13,ae 15 5,aP 16 1 14 15,ao 17 16,ae 18 1,((some 19),.op (.iE .eql (.tmp 17) (.tmp 18)))]) <|
  .cond (.tmp 19) (.seq (ay [ae 20 5,ae 4 20]) <|
  .ret) (.skip))) <|
  ay [ae 11 5,az 12 .add 11 1,ae 5 12]
def pL:DF:=⟨.seq (ay [cM 2 0,aH 4 0]) <|
  .seq (.seq (ay [aH 5 0]) <|
  .block 0 (.loop vG)) <|
  .seq (ay [aH 4 (-1)]) <|
  .ret,
  [.tmp 4],21⟩
theorem u9:bH Tryz.prog 125 [2]=some pL:=by kernel_rfl
def uV:DC :=
  .seq (.seq (ay [ae 6 5,au 7 0 2,ao 8 7,aL 9 8,aR 10 .lss 6 9]) <|
  .cond (.tmp 10) (.skip) (.exit 0)) <|
  .seq (.block 1 (.seq (ay [au 13 0 2,ao 14 13,ae 15 5,aP 16 3 14 15,au 17 0 16,ao 18 17,ae 19 1,((some 20),.op (.iE .eql (.tmp 18) (.tmp 19)))]) <|
  .cond (.tmp 20) (.seq (ay [ae 21 5,ae 4 21]) <|
  .ret) (.skip))) <|
  ay [ae 11 5,az 12 .add 11 1,ae 5 12]
def oW:DF:=⟨.seq (ay [cM 2 0,aH 4 0]) <|
  .seq (.seq (ay [aH 5 0]) <|
  .block 0 (.loop uV)) <|
  .seq (ay [aH 4 (-1)]) <|
  .ret,
  [.tmp 4],22⟩
theorem sU:bH Tryz.prog 140 [2]=some oW:=by kernel_rfl
def ij:DF:=⟨.seq (ay [cM 3 1,aH 4 0]) <|
  .seq (ay [ae 6 0,bG 7 6,au 8 0 7,aU 9 4 8,au 10 0 3,ao 11 10,aN 12 140 [9,11],ae 5 12]) <|
  .seq (.seq (ay [ae 13 5,az 14 .geq 13 0]) <|
  .cond (.tmp 14) (.seq (ay [ae 15 5,ae 4 15]) <|
  .ret) (.skip)) <|
  .seq (.seq (ay [ae 16 0,bG 17 16,au 18 0 17,au 19 0 18,ao 20 19,aL 21 20,az 22 .eql 21 24]) <|
  .cond (.tmp 22) (.seq (ay [ae 23 0,aU 24 2 3,cT 25 126 [(.tmp 23),(.tmp 24),(.val (.val (.int .i64 5)))]]) <|
  .seq (ay [aH 4 0]) <|
  .ret) (.skip)) <|
  .seq (.region [] [⟨none,[ae 26 0,ae 27 0,bG 28 27,au 29 0 28,au 30 0 29,ao 31 30,au 32 0 3,ao 33 32,((some 34),.op (.build [(.val (.string ⟨#[]⟩)),(.val (.int .i64 0)),(.val (.int .i64 0))] [(0,1,(.tmp 33))])),((some 35),.op (.bJ 1 3 [(.val (.string ⟨#[]⟩)),(.val (.int .i64 0)),(.val (.int .i64 0))] [(0,(.tmp 34))])),((some 36),.op (.app 3 32 (.tmp 31) (.tmp 35))),bG 37 26,au 38 0 37,au 39 0 38,(none,.op (.store 1 (.tmp 39) (.tmp 36)))]⟩]) <|
  .seq (ay [ae 40 0,bG 41 40,au 42 0 41,au 43 0 42,ao 44 43,aL 45 44,az 46 .sub 45 1,ae 4 46]) <|
  .ret,
  [.tmp 4],47⟩
theorem mR:bH Tryz.prog 226 [3]=some ij:=by kernel_rfl
def pG:DC :=
  .seq (.seq (.region [] [⟨none,[ae 60 7,au 61 1 5,ao 62 61,aL 63 62,aR 64 .lss 60 63,ae 65 64]⟩,⟨(some (65,true)),[ae 66 0,bG 67 66,au 68 10 67,ao 69 68,az 70 .eql 69 0]⟩,⟨none,[bO 71 65 70]⟩]) <|
  .cond (.tmp 71) (.skip) (.exit 2)) <|
  .seq (.block 3 (ay [ae 74 0,au 75 0 5,ao 76 75,au 77 1 5,ao 78 77,ae 79 7,aP 80 2 78 79,aU 81 2 80,aN 82 184 [74,76,81]])) <|
  ay [ae 72 7,az 73 .add 72 1,ae 7 73]
def pw:DC :=
  .seq (.seq (.region [] [⟨none,[ae 8 4,ae 9 1,aL 10 9,aR 11 .lss 8 10,ae 12 11]⟩,⟨(some (12,true)),[ae 13 0,bG 14 13,au 15 10 14,ao 16 15,az 17 .eql 16 0]⟩,⟨none,[bO 18 12 17]⟩]) <|
  .cond (.tmp 18) (.skip) (.exit 0)) <|
  .seq (.block 1 (.seq (ay [ae 21 1,ae 22 4,aP 23 2 21 22,aU 24 2 23,((some 5),.op (.alloc [(.val (.int .i64 0)),(.emp 1)])),(none,.op (.store 2 (.tmp 5) (.tmp 24)))]) <|
  .seq (.seq (.region [] [⟨none,[au 25 0 5,ao 26 25,az 27 .lss 26 3,ae 28 27]⟩,⟨(some (28,false)),[au 29 0 5,ao 30 29,az 31 .gtr 30 7]⟩,⟨none,[bC 32 28 31]⟩]) <|
  .cond (.tmp 32) (.seq (.region [] [⟨none,[((some 33),.op (.build [(.val (.string ⟨#[]⟩)),(.val (.complex .f64 0 0))] [])),((some 6),.op (.alloc [(.val (.string ⟨#[]⟩)),(.val (.complex .f64 0 0))])),(none,.op (.store 2 (.tmp 6) (.tmp 33)))]⟩]) <|
  .seq (.seq (ay [au 34 1 5,ao 35 34,aL 36 35,az 37 .gtr 36 0]) <|
  .cond (.tmp 37) (ay [au 38 1 5,ao 39 38,((some 40),.op (.idx 2 (.tmp 39) (.val (.val (.int .i64 0))))),aU 41 2 40,(none,.op (.store 2 (.tmp 6) (.tmp 41)))]) (.skip)) <|
  .seq (ay [ae 42 0,aU 43 2 6,cT 44 126 [(.tmp 42),(.tmp 43),(.val (.val (.int .i64 3)))]]) <|
  .ret) (.skip)) <|
  .seq (.seq (.region [] [⟨none,[au 45 0 5,ao 46 45,az 47 .neq 46 3,ae 48 47]⟩,⟨(some (48,true)),[au 49 0 5,ao 50 49,az 51 .neq 50 7]⟩,⟨none,[bO 52 48 51]⟩]) <|
  .cond (.tmp 52) (ay [ae 53 0,bG 54 53,au 55 8 54,ao 56 55,az 57 .add 56 1,bG 58 53,au 59 8 58,(none,.op (.store 1 (.tmp 59) (.tmp 57)))]) (.skip)) <|
  .seq (ay [aH 7 0]) <|
  .block 2 (.loop pG))) <|
  ay [ae 19 4,az 20 .add 19 1,ae 4 20]
def jz:DF:=⟨.seq (ay [aH 4 0]) <|
  .block 0 (.loop pw),
  [],83⟩
theorem pq:bH Tryz.prog 122 []=some jz:=by kernel_rfl
def iI:DF:=⟨.seq (ay [cM 5 2]) <|
  .block 0 (.seq (.region [] [⟨none,[au 63 0 5,ao 64 63,aN 65 139 [64],bZ 66 65,ae 67 66]⟩,⟨(some (67,false)),[ae 68 1,az 69 .eql 68 7,ae 70 69]⟩,⟨(some (70,true)),[au 71 0 5,ao 72 71,aN 73 142 [72],bZ 74 73]⟩,⟨(some (67,false)),[bO 75 70 74]⟩,⟨none,[bC 76 67 75,ae 62 76]⟩]) <|
  .cond (.tmp 62) (ay [ae 77 0,aU 78 2 5,cT 79 126 [(.tmp 77),(.tmp 78),(.val (.val (.int .i64 3)))]]) (.seq (ay [ae 81 1,az 82 .eql 81 7,ae 80 82]) <|
  .cond (.tmp 80) (.seq (.seq (ay [ae 83 0,bG 84 83,au 85 7 84,ao 86 85]) <|
  .cond (.tmp 86) (ay [ae 87 0,aU 88 2 5,cT 89 126 [(.tmp 87),(.tmp 88),(.val (.val (.int .i64 7)))]]) (.skip)) <|
  ay [ae 90 0,ae 91 0,aU 92 2 5,bG 93 90,au 94 5 93,(none,.op (.store 2 (.tmp 94) (.tmp 92))),bG 95 91,au 96 7 95,(none,.op (.store 1 (.tmp 96) (.val (.val (.bool true)))))]) (.seq (ay [ae 98 1,az 99 .eql 98 3,ae 97 99]) <|
  .cond (.tmp 97) (.seq (.seq (ay [ae 100 0,bG 101 100,au 102 4 101,ao 103 102,au 104 0 5,ao 105 104,aN 106 225 [103,105]]) <|
  .cond (.tmp 106) (ay [ae 107 0,aU 108 2 5,cT 109 126 [(.tmp 107),(.tmp 108),(.val (.val (.int .i64 7)))]]) (.skip)) <|
  .seq (.region [] [⟨none,[ae 110 0,ae 111 0,bG 112 111,au 113 4 112,ao 114 113,au 115 0 5,ao 116 115,((some 117),.op (.bJ 1 1 [(.val (.string ⟨#[]⟩))] [(0,(.tmp 116))])),((some 118),.op (.app 1 16 (.tmp 114) (.tmp 117))),bG 119 110,au 120 4 119,(none,.op (.store 1 (.tmp 120) (.tmp 118)))]⟩]) <|
  ay [ae 121 0,aU 122 2 5,aN 123 226 [121,122]]) (.seq (ay [ae 7 0,bG 8 7,au 9 0 8,aU 10 4 9,au 11 0 5,ao 12 11,aN 13 140 [10,12],ae 6 13]) <|
  .seq (.seq (.region [] [⟨none,[ae 14 6,az 15 .geq 14 0,ae 16 15]⟩,⟨(some (16,true)),[ae 17 0,bG 18 17,au 19 0 18,au 20 0 19,ao 21 20,ae 22 6,aP 23 3 21 22,au 24 1 23,ao 25 24,az 26 .gtr 25 0]⟩,⟨none,[bO 27 16 26]⟩]) <|
  .cond (.tmp 27) (.seq (ay [ae 28 0,aU 29 2 5,cT 30 126 [(.tmp 28),(.tmp 29),(.val (.val (.int .i64 7)))]]) <|
  .ret) (.skip)) <|
  .seq (ay [ae 31 0,aU 32 2 5,aN 33 226 [31,32],ae 6 33]) <|
  .seq (ay [ae 34 0,bG 35 34,au 36 10 35,ao 37 36,az 38 .eql 37 0]) <|
  .cond (.tmp 38) (ay [ae 39 0,bG 40 39,au 41 0 40,au 42 0 41,ao 43 42,ae 44 6,ae 45 0,bG 46 45,au 47 0 46,au 48 0 47,ao 49 48,ae 50 6,ae 51 0,bG 52 51,au 53 8 52,ao 54 53,ae 55 1,az 56 .sub 55 4,az 57 .add 56 1,aP 58 3 43 44,au 59 1 58,(none,.op (.store 1 (.tmp 59) (.tmp 54))),aP 60 3 49 50,au 61 2 60,(none,.op (.store 1 (.tmp 61) (.tmp 57)))]) (.skip))))),
  [],124⟩
theorem mW:bH Tryz.prog 184 [5]=some iI:=by kernel_rfl
def vP:DC :=
  .seq (.seq (ay [ae 6 5,ae 7 0,aL 8 7,aR 9 .lss 6 8]) <|
  .cond (.tmp 9) (.skip) (.exit 0)) <|
  .seq (.block 1 (.seq (ay [ae 12 0,ae 13 5,aP 14 1 12 13,ao 15 14,ae 16 1,((some 17),.op (.iE .eql (.tmp 15) (.tmp 16)))]) <|
  .cond (.tmp 17) (.seq (ay [aV 4 true]) <|
  .ret) (.skip))) <|
  ay [ae 10 5,az 11 .add 10 1,ae 5 11]
def pU:DF:=⟨.seq (ay [aV 4 false]) <|
  .seq (.seq (ay [aH 5 0]) <|
  .block 0 (.loop vP)) <|
  .seq (ay [aV 4 false]) <|
  .ret,
  [.tmp 4],18⟩
theorem uq:bH Tryz.prog 225 []=some pU:=by kernel_rfl
def py:DC :=
  .seq (.seq (.region [] [⟨none,[ae 6 4,ae 7 1,aL 8 7,aR 9 .lss 6 8,ae 10 9]⟩,⟨(some (10,true)),[ae 11 0,bG 12 11,au 13 10 12,ao 14 13,az 15 .eql 14 0]⟩,⟨none,[bO 16 10 15]⟩]) <|
  .cond (.tmp 16) (.skip) (.exit 0)) <|
  .seq (.block 1 (.seq (.region [] [⟨none,[ae 19 1,ae 20 4,aP 21 5 19 20,au 22 0 21,aU 23 2 22,((some 5),.op (.alloc [(.val (.string ⟨#[]⟩)),(.val (.complex .f64 0 0))])),(none,.op (.store 2 (.tmp 5) (.tmp 23)))]⟩]) <|
  .block 2 (.seq (ay [au 38 0 5,ao 39 38,aN 40 142 [39],bZ 41 40,ae 37 41]) <|
  .cond (.tmp 37) (ay [ae 42 0,aU 43 2 5,cT 44 126 [(.tmp 42),(.tmp 43),(.val (.val (.int .i64 3)))]]) (.seq (ay [ae 46 0,bG 47 46,au 48 0 47,aU 49 4 48,au 50 0 5,ao 51 50,aN 52 140 [49,51],az 53 .geq 52 0,ae 45 53]) <|
  .cond (.tmp 45) (ay [ae 54 0,aU 55 2 5,cT 56 126 [(.tmp 54),(.tmp 55),(.val (.val (.int .i64 7)))]]) (.seq (ay [ae 58 0,bG 59 58,au 60 0 59,aU 61 4 60,au 62 0 5,ao 63 62,aN 64 125 [61,63],az 65 .geq 64 0,ae 57 65]) <|
  .cond (.tmp 57) (.skip) (.seq (ay [ae 67 0,bG 68 67,au 69 0 68,au 70 1 69,ao 71 70,aL 72 71,az 73 .eql 72 16,ae 66 73]) <|
  .cond (.tmp 66) (ay [ae 74 0,aU 75 2 5,cT 76 126 [(.tmp 74),(.tmp 75),(.val (.val (.int .i64 5)))]]) (.region [] [⟨none,[ae 24 0,ae 25 0,bG 26 25,au 27 0 26,au 28 1 27,ao 29 28,au 30 0 5,ao 31 30,((some 32),.op (.bJ 1 1 [(.val (.string ⟨#[]⟩))] [(0,(.tmp 31))])),((some 33),.op (.app 1 16 (.tmp 29) (.tmp 32))),bG 34 24,au 35 0 34,au 36 1 35,(none,.op (.store 1 (.tmp 36) (.tmp 33)))]⟩]))))))) <|
  ay [ae 17 4,az 18 .add 17 1,ae 4 18]
def jq:DF:=⟨.seq (ay [aH 4 0]) <|
  .block 0 (.loop py),
  [],77⟩
theorem o7:bH Tryz.prog 123 []=some jq:=by kernel_rfl
def AS:List (FuncId × DF):=[(41,oM),(70,mZ),(120,mI),(176,oI),(215,pJ),(216,oy),(217,oN),(218,mj),(234,lV),(177,qz),(219,qS),(178,pK),(193,nd),(192,nt),(191,lH),(220,lp),(221,lf),(222,oS),(121,q9),(182,je),(181,iD),(223,jk),(224,kg),(180,jj),(183,jn),(179,iG),(71,m6),(124,kf),(139,nr),(142,pf),(126,ki),(185,jb),(125,pL),(140,oW),(226,ij),(122,jz),(184,iI),(225,pU),(123,jq)]
theorem Gc:r6 Tryz.prog AS:=by
  intro p hp
  simp only[AS,List.mem_cons,List.not_mem_nil,or_false] at hp
  rcases hp with rfl | rfl | rfl | rfl | rfl | rfl | rfl | rfl | rfl | rfl | rfl | rfl | rfl | rfl | rfl | rfl | rfl | rfl | rfl | rfl | rfl | rfl | rfl | rfl | rfl | rfl | rfl | rfl | rfl | rfl | rfl | rfl | rfl | rfl | rfl | rfl | rfl | rfl | rfl
  · exact ⟨_,tn⟩
  · exact ⟨_,sF⟩
  · exact ⟨_,rh⟩
  · exact ⟨_,s8⟩
  · exact ⟨_,uf⟩
  · exact ⟨_,tt⟩
  · exact ⟨_,tD⟩
  · exact ⟨_,rf⟩
  · exact ⟨_,ra⟩
  · exact ⟨_,vI⟩
  · exact ⟨_,vO⟩
  · exact ⟨_,uh⟩
  · exact ⟨_,sD⟩
  · exact ⟨_,sn⟩
  · exact ⟨_,qW⟩
  · exact ⟨_,qF⟩
  · exact ⟨_,qI⟩
  · exact ⟨_,tM⟩
  · exact ⟨_,vL⟩
  · exact ⟨_,nF⟩
  · exact ⟨_,mV⟩
  · exact ⟨_,nE⟩
  · exact ⟨_,px⟩
  · exact ⟨_,nL⟩
  · exact ⟨_,n0⟩
  · exact ⟨_,mX⟩
  · exact ⟨_,sk⟩
  · exact ⟨_,pz⟩
  · exact ⟨_,sx⟩
  · exact ⟨_,tH⟩
  · exact ⟨_,pD⟩
  · exact ⟨_,nY⟩
  · exact ⟨_,u9⟩
  · exact ⟨_,sU⟩
  · exact ⟨_,mR⟩
  · exact ⟨_,pq⟩
  · exact ⟨_,mW⟩
  · exact ⟨_,uq⟩
  · exact ⟨_,o7⟩
def yF (l:List Int):V:=.aY (l.map fun x=>[gy x])
theorem Jn (l:List Int):Tree (yF l):=ee _ _ fun x _ v hv=>by simp at hv; subst hv; exact .val _
def qn (g:an):V:=.bo [.agg (ar g),.val (.complex .f64 0 0),gi 0]
theorem FD {l:List Int} {g:an} (h:sT Tryz.prog AS (fun _ _ _=>none) 41 [yF l]=some (qn g)):cd Tryz.prog 41 [yF l] (qn g) :=
  pX mixed Gc (G0 _) (by intro v hv; simp at hv; subst hv; exact Jn _) h
abbrev dp (κ:Type):=List (κ × V × Nat)
def c4 {κ:Type} (key:κ→Value) (m:dp κ):List (V × V × Nat):=m.map fun x=>(.val (key x.1),x.2.1,x.2.2)
def getM {κ:Type} [BEq κ] (m:dp κ) (k:κ):Option V:=(m.find? fun x=>k == x.1).map (·.2.1)
def cW {κ:Type} [BEq κ] (k:κ) (v:V) (c:Nat):dp κ→dp κ
  | []=>[(k,v,c)]
  | x :: r=>if k == x.1 then (k,v,x.2.2) :: r else x :: cW k v c r
structure AN {κ:Type} [BEq κ] (P:Program) (kt:TypeId) (key:κ→Value):Prop where
  ty:∃ d,P.underlying kt=some d∧(∀ a b,Instr.sameNow d (key a) (key b)=some (a == b))∧(∀ a e,bA P (Instr.checkKey e 10000 kt (key a))=some ())
  bits:∀ a b,(a == b)=true→Instr.sameBits 10000 (key b) (key a)=true
theorem tN {κ:Type} (key:κ→Value):∀ m:dp κ,iz (c4 key m)=some (m.map fun x=>{ key:=key x.1,val:=.nilFunc,born:=x.2.2 })
  | []=>rfl
  | x :: r=>by
    have:=tN key r
    simp only[c4] at this
    simp[c4,iz,cO,this]
def jO {κ:Type} [BEq κ] (k:κ):dp κ→Option Nat
  | []=>none
  | x :: r=>if k == x.1 then some 0 else (jO k r).map (·+1)
theorem yy {κ:Type} [BEq κ] {key:κ→Value} {d:TypeDesc} (h:∀ a b,Instr.sameNow d (key a) (key b)=some (a == b)) (k:κ):∀ (m:dp κ) (i:Nat),
    Instr.findNow d (key k) (m.map fun x=>{ key:=key x.1,val:=.nilFunc,born:=x.2.2 }) i=some ((jO k m).map fun j=>(i+j,.nilFunc))
  | [],i=>rfl
  | x :: r,i=>by
    simp only[List.map_cons,Instr.findNow,h,jO]
    cases hk:k == x.1 with
    | true=>simp
    | false =>
      simp only[yy h k r (i+1),Bool.false_eq_true,if_false,Option.map_map]
      congr 2
      funext j
      simp only[Function.comp]
      congr 1
      omega
theorem vR {κ:Type} [BEq κ] {P:Program} {kt:TypeId} {key:κ→Value} (h:AN P kt key) (k:κ) (e:Bool) (m:dp κ):l7 P kt (.val (key k)) e (c4 key m)=some (jO k m):=by
  obtain ⟨d,hd,hn,hc⟩:=h.ty
  have hu:bA P (underlying kt)=some d:=dS hd
  simp only[l7,cO,tN,br,hc,Option.bind_some]
  have:bA P (Instr.findKey kt (key k) (m.map fun x=>{ key:=key x.1,val:=.nilFunc,born:=x.2.2 }))=some ((jO k m).map fun j=>(0+j,.nilFunc)):=by
    unfold Instr.findKey
    rw[br,hu,Option.bind_some,yy hn]
    rfl
  rw[this]
  cases jO k m with
  | none=>rfl
  | some j=>simp
theorem F0 {P:Program} {kt:TypeId} {d:TypeDesc} (h:P.underlying kt=some d) (hd:match d with | .int _ | .string | .bool=>True | _=>False) (e:Bool) (n:Nat) (v:Value):bA P (Instr.checkKey e (n+1) kt v)=some ():=by
  unfold Instr.checkKey
  rw[br,dS h,Option.bind_some]
  cases d <;> first | exact hd.elim | rfl
theorem gX {P:Program} {kt:TypeId} (k:IntKind) (h:P.underlying kt=some (.int k)):AN P kt (Value.int k) where
  ty:=⟨_,h,fun a b=>by simp[Instr.sameNow],fun a e=>F0 h trivial e 9999 _⟩
  bits:=fun a b hab=>by
    have:a=b:=by simpa using hab
    subst this
    simp[Instr.sameBits]
theorem uj {κ:Type} [BEq κ] {key:κ→Value} (k:κ):∀ m:dp κ,match jO k m with
    | some i=>∃ x,m[i]?=some x∧(k == x.1)=true∧getM m k=some x.2.1∧(c4 key m)[i]?=some (.val (key x.1),x.2.1,x.2.2)∧∀ v c,(c4 key m).set i (.val (key k),v,x.2.2)=c4 key (cW k v c m)∧(cW k v c m).length=m.length
    | none=>getM m k=none∧∀ v c,c4 key m ++ [(.val (key k),v,c)]=c4 key (cW k v c m)∧(cW k v c m).length=m.length+1
  | []=>⟨rfl,fun v c=>⟨rfl,rfl⟩⟩
  | x :: r=>by
    have ih:=uj (key:=key) k r
    simp only[jO]
    cases hk:k == x.1 with
    | true=>exact ⟨x,rfl,hk,by simp[getM,hk],rfl,fun v c=>by simp[cW,hk,c4]⟩
    | false =>
      simp only[Bool.false_eq_true,if_false]
      cases hi:jO k r with
      | some i =>
        rw[hi] at ih
        obtain ⟨y,h1,h2,h3,h4,h5⟩:=ih
        refine ⟨y,by simpa using h1,h2,by simpa [getM,hk] using h3,by simpa [c4] using h4,fun v c=>?_⟩
        obtain ⟨g1,g2⟩:=h5 v c
        exact ⟨by simp only[c4] at g1 ⊢; simp[cW,hk,g1],by simp[cW,hk,g2]⟩
      | none =>
        rw[hi] at ih
        refine ⟨by simpa [getM,hk] using ih.1,fun v c=>?_⟩
        obtain ⟨g1,g2⟩:=ih.2 v c
        exact ⟨by simp only[c4] at g1 ⊢; simp[cW,hk,g1],by simp[cW,hk,g2]⟩
section
variable {P:Program} {T:Env} {H:View} {κ:Type} [BEq κ] {key:κ→Value} {kt et t ty:TypeId}
theorem xS {K:V→View→Prop} {w:cF (T,H,K)} {x i:Operand} {z:V} {id c:Nat} {m:dp κ} {k:κ} (hm:eM P t=some (kt,et)) (hz:zeroV P et=some z) (hk:AN P kt key)
    (hx:ev T x=.mp id) (hi:ev T i=.val (key k)) (hH:H id=.map (c4 key m) c) (h:K ((getM m k).getD z) H):ot P (.lookup t x i false) ty T H K w:=by
  intro n _
  have hf:=vR hk k (c4 key m).isEmpty m
  have hg:=uj (key:=key) k m
  refine ⟨(getM m k).getD z,.none,[id],?_,h⟩
  simp only[sI,bX,oper,eN,hm,hz,hx,hi,hH,hf]
  cases hj:jO k m with
  | some j =>
    rw[hj] at hg
    obtain ⟨y,h1,h2,h3,h4,_⟩:=hg
    simp[h4,h3]
  | none =>
    rw[hj] at hg
    simp[hg.1]
theorem L3 {K:V→View→Prop} {w:cF (T,H,K)} {x i:Operand} {z:V} {id c:Nat} {m:dp κ} {k:κ} (hm:eM P t=some (kt,et)) (hz:zeroV P et=some z) (hk:AN P kt key)
    (hx:ev T x=.mp id) (hi:ev T i=.val (key k)) (hH:H id=.map (c4 key m) c) (h:K (.bo [(getM m k).getD z,.val (.bool (getM m k).isSome)]) H):ot P (.lookup t x i true) ty T H K w:=by
  intro n _
  have hf:=vR hk k (c4 key m).isEmpty m
  have hg:=uj (key:=key) k m
  refine ⟨_,.none,[id],?_,h⟩
  simp only[sI,bX,oper,eN,hm,hz,hx,hi,hH,hf]
  cases hj:jO k m with
  | some j =>
    rw[hj] at hg
    obtain ⟨y,h1,h2,h3,h4,_⟩:=hg
    simp[h4,h3]
  | none =>
    rw[hj] at hg
    simp[hg.1]
theorem KX (hk:AN P kt key) (k k':κ) (h:(k == k')=true):sameKey (.val (key k')) (.val (key k))=true:=by
  simp only[sameKey,cO]; exact hk.bits _ _ h
theorem wQ {K:V→View→Prop} {w:cF (T,H,K)} {x i y:Operand} {id c:Nat} {m:dp κ} {k:κ} {v:V} (hm:eM P t=some (kt,et)) (hk:AN P kt key)
    (hx:ev T x=.mp id) (hi:ev T i=.val (key k)) (hy:ev T y=v) (hH:H id=.map (c4 key m) c)
    (h:∀ c',K .any (H.set id (.map (c4 key (cW k v c m)) c'))):ot P (.mapUpdate t x i y) ty T H K w:=by
  intro n _
  have hf:=vR hk k false m
  have hg:=uj (key:=key) k m
  cases hj:jO k m with
  | some j =>
    rw[hj] at hg hf
    obtain ⟨z,h1,h2,h3,h4,h5⟩:=hg
    refine ⟨.any,.fC id (.map ((c4 key m).set j (.val (key k),v,z.2.2)) c),[id],?_,?_⟩
    · simp only[sI,bX,oper,eV,hm,hx,hi,hy,hH,hf,h4,KX hk k z.1 h2,if_true]
    · rw[(h5 v c).1]; exact h c
  | none =>
    rw[hj] at hg hf
    refine ⟨.any,.fC id (.map (c4 key m ++ [(.val (key k),v,c)]) (c+1)),[id],?_,?_⟩
    · simp only[sI,bX,oper,eV,hm,hx,hi,hy,hH,hf]
    · rw[(hg.2 v c).1]; exact h (c+1)
theorem OO {P:Program} {T:Env} {H:View} {t ty:TypeId} {x i y:Operand} {K:V→View→Prop} {w:cF (T,H,K)} : ot P (.insert t x i y) ty T H K w=ot P (.mapUpdate t x i y) ty T H K w:=propext Iff.rfl
omit [BEq κ] in
theorem Pd {K:V→View→Prop} {w:cF (T,H,K)} {x:Operand} {id c:Nat} {m:dp κ} (hm:eM P t=some (kt,et)) (hx:ev T x=.mp id) (hH:H id=.map (c4 key m) c) (h:K (ak m.length) H) :
    ot P (.call { callee:=.builtin .len,args:=#[x],argTypes:=#[t] }) ty T H K w:=by
  intro n _
  have hu:∃ a b,P.underlying t=some (.map a b):=by
    unfold eM at hm
    split at hm
    · rename_i a b h1; exact ⟨a,b,h1⟩
    · simp at hm
  obtain ⟨a,b,hu⟩:=hu
  refine ⟨ak m.length,.none,[id],?_,h⟩
  have hl:(c4 key m).length=m.length:=by simp[c4]
  simp only[sI,bX,oper,List.size_toArray,List.length_cons,List.length_nil,si,hx,hH,hl]
  simp[hu]
end
theorem y4 {κ:Type} [BEq κ] [LawfulBEq κ] (k k':κ) (v:V) (c:Nat):∀ m:dp κ,getM (cW k v c m) k'=if k' == k then some v else getM m k'
  | []=>by
    by_cases h:k'=k
    · subst h; simp[cW,getM]
    · simp[cW,getM,h]
  | x :: r=>by
    have ih:=y4 k k' v c r
    simp only[cW]
    by_cases hk:k=x.1
    · by_cases h:k'=k
      · subst h; simp[hk,getM]
      · have:¬ k'=x.1:=fun e=>h (e.trans hk.symm)
        simp[hk,getM,this]
    · simp only[beq_iff_eq,hk,if_false]
      by_cases h:k'=x.1
      · have:¬ k'=k:=fun e=>hk (e.symm.trans h)
        simp[getM,h]
        subst h
        simp[this]
      · simp only[getM,List.find?_cons,beq_eq_false_iff_ne.2 h] at ih ⊢
        exact ih
def dr {κ β:Type} [BEq κ] (a:List (κ × β)) (k:κ):Option β:=(a.find? fun x=>k == x.1).map (·.2)
def iV {κ β:Type} [BEq κ] (k:κ) (v:β):List (κ × β)→List (κ × β)
  | []=>[(k,v)]
  | x :: r=>if k == x.1 then (k,v) :: r else x :: iV k v r
def l0 {κ β:Type} (encV:β→V):List (κ × β)→dp κ→Prop
  | [],[]=>True
  | x :: a,y :: m=>y.1=x.1∧y.2.1=encV x.2∧l0 encV a m
  | _,_=>False
theorem l0.get {κ β:Type} [BEq κ] {encV:β→V} (k:κ):∀ {a:List (κ × β)} {m:dp κ},l0 encV a m→getM m k=(dr a k).map encV
  | [],[],_=>rfl
  | x :: a,y :: m,⟨h1,h2,h3⟩=>by
    have ih:=l0.get k h3
    simp only[getM,dr,List.find?_cons,h1] at ih ⊢
    cases k == x.1 with
    | true=>simp[h2]
    | false=>simpa using ih
theorem l0.put {κ β:Type} [BEq κ] {encV:β→V} (k:κ) (v:β) (c:Nat):∀ {a:List (κ × β)} {m:dp κ},l0 encV a m→l0 encV (iV k v a) (cW k (encV v) c m)
  | [],[],_=>⟨rfl,rfl,trivial⟩
  | x :: a,y :: m,⟨h1,h2,h3⟩=>by
    have ih:=l0.put k v c h3
    simp only[iV,cW,h1]
    cases k == x.1 with
    | true=>exact ⟨rfl,rfl,h3⟩
    | false=>exact ⟨h1,h2,ih⟩
theorem l0.len {κ β:Type} {encV:β→V} : ∀ {a:List (κ × β)} {m:dp κ},l0 encV a m→m.length=a.length
  | [],[],_=>rfl
  | x :: a,y :: m,⟨_,_,h3⟩=>by simp[l0.len h3]
theorem DH {κ β:Type} [BEq κ] [LawfulBEq κ] (k k':κ) (v:β):∀ a:List (κ × β),dr (iV k v a) k'=if k' == k then some v else dr a k'
  | []=>by
    by_cases h:k'=k
    · subst h; simp[iV,dr]
    · simp[iV,dr,h]
  | x :: r=>by
    have ih:=DH k k' v r
    simp only[iV]
    by_cases hk:k=x.1
    · by_cases h:k'=k
      · subst h; simp[hk,dr]
      · have:¬ k'=x.1:=fun e=>h (e.trans hk.symm)
        simp[hk,dr,this]
    · simp only[beq_iff_eq,hk,if_false]
      by_cases h:k'=x.1
      · have:¬ k'=k:=fun e=>hk (e.symm.trans h)
        simp[dr,h]
        subst h
        simp[this]
      · simp only[dr,List.find?_cons,beq_eq_false_iff_ne.2 h] at ih ⊢
        exact ih
def Ck (n k:Nat) (J:Nat→Env→View→Prop) (T:Env) (H:View):Prop:=∃ i,i+k=n∧J i T H
theorem bb.up {P:Program} {T:Env} {H:View} {c:SC} {Q:Exit→Env→View→Prop} {v:cF (T,H,Q)} (n:Nat) (J:Nat→Env→View→Prop) (h0:J 0 T H)
    (hs:∀ i k T H,i+k=n→J i T H→wS P c T H fun e T' H'=>x3 e (∃ k',k' < k∧Ck n k' J T' H') (Q e T' H')):bb P c T H Q v :=
  bb.intro (fun k T H=>Ck n k J T H) n ⟨0,by omega,h0⟩ fun k T H ⟨i,hk,hj⟩=>hs i k T H hk hj
theorem aK {n i k:Nat} {J:Nat→Env→View→Prop} {T:Env} {H:View} (hk:i+k=n) (hlt:i < n) (hJ:J (i+1) T H):∃ k',k' < k∧Ck n k' J T H:=⟨k - 1,by omega,i+1,by omega,hJ⟩
end Gv
