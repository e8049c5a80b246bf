/-
  Part 8 of the proof: what the machine does and what the functions answer.
  Conditions: those that each lemma names.
-/
import Derived.Test.YtomcjampldmjoaaGreatSGzXG
set_option linter.unusedSimpArgs false
set_option linter.unusedVariables false
set_option maxRecDepth 100000
namespace Gv
open Go Go.Proofs
def oD:DF:=⟨.seq (aj [((some 2),.op (.alloc [(.emp 1),(.emp 1),(.emp 1),(.val (.int .i64 0))])),((some 3),.op (.aX (.val (.val (.complex .f64 0 0))))),az 4 0]) <|
  .seq (aj [aa 9 0,aJ 10 70 [9],aa 8 10,bu 11 0 8,bu 12 1 8,bu 13 2 8,((some 5),.op (.alloc [(.emp 1),(.emp 1)])),(none,.op (.store 2 (.tmp 5) (.tmp 11))),aa 6 12,aa 7 13]) <|
  .seq (.seq (aj [aa 14 7,au 15 .neq 14 0]) <|
  .cond (.tmp 15) (.seq (aj [((some 16),.op (.build [(.emp 1),(.emp 1),(.emp 1),(.val (.int .i64 0))] [])),aa 17 6,aa 18 7,(none,.op (.store 4 (.tmp 2) (.tmp 16))),aa 3 17,aa 4 18]) <|
  .ret) (.skip)) <|
  .seq (aj [aF 19 2 5,aJ 20 71 [19],bu 21 0 20,bu 22 1 20,bu 23 2 20,(none,.op (.store 4 (.tmp 2) (.tmp 21))),aa 3 22,aa 4 23]) <|
  .ret,
  [.cell 2 (some 4),.tmp 3,.tmp 4],24⟩
theorem tW:aO Tryz.prog 41 []=some oD:=by kernel_rfl
def mQ:DF:=⟨.seq (aj [((some 2),.op (.alloc [(.emp 1),(.emp 1)])),((some 3),.op (.aX (.val (.val (.complex .f64 0 0))))),az 4 0]) <|
  .seq (aj [aa 9 0,aJ 10 120 [9],aa 8 10,bu 11 0 8,bu 12 1 8,bu 13 2 8,aa 5 11,aa 6 12,aa 7 13]) <|
  .seq (.seq (aj [aa 14 7,au 15 .neq 14 0]) <|
  .cond (.tmp 15) (.seq (aj [((some 16),.op (.build [(.emp 1),(.emp 1)] [])),aa 17 6,aa 18 7,(none,.op (.store 2 (.tmp 2) (.tmp 16))),aa 3 17,aa 4 18]) <|
  .ret) (.skip)) <|
  .seq (aj [aa 19 5,aa 20 6,aJ 21 121 [19,20],bu 22 0 21,bu 23 1 21,bu 24 2 21,(none,.op (.store 2 (.tmp 2) (.tmp 22))),aa 3 23,aa 4 24]) <|
  .ret,
  [.cell 2 (some 2),.tmp 3,.tmp 4],25⟩
theorem sV:aO Tryz.prog 70 []=some mQ:=by kernel_rfl
def sx:DC :=
  .seq (.seq (.region [] [⟨none,[aa 16 6,aa 17 0,aA 18 17,aC 19 .lss 16 18,aa 20 19]⟩,⟨(some (20,true)),[aa 21 7,au 22 .lss 21 2]⟩,⟨none,[bq 23 20 22]⟩]) <|
  .cond (.tmp 23) (.skip) (.exit 0)) <|
  .block 1 (.seq (aj [aa 25 0,aa 26 6,aJ 27 176 [25,26],aa 24 27,bu 28 0 24,bu 29 1 24,aa 8 28,aa 9 29]) <|
  .seq (.seq (aj [aa 30 8,au 31 .lss 30 0]) <|
  .cond (.tmp 31) (.seq (aj [aa 32 0,aa 33 6,aJ 34 177 [32,33],((some 2),.op (.aX (.val (.emp 1)))),aa 3 34,az 4 4]) <|
  .ret) (.skip)) <|
  .seq (.seq (aj [aa 35 9]) <|
  .cond (.tmp 35) (.seq (aj [aa 36 8,aa 6 36]) <|
  .exit 1) (.skip)) <|
  .seq (.region [] [⟨none,[aa 38 0,aa 39 6,aJ 40 178 [38,39],aa 37 40,bu 41 0 37,bu 42 1 37,bu 43 2 37,((some 10),.op (.alloc [(.val (.int .i64 0)),(.val (.string ⟨#[]⟩)),(.val (.complex .f64 0 0))])),(none,.op (.store 3 (.tmp 10) (.tmp 41))),aa 11 42,aa 12 43]⟩]) <|
  .seq (.seq (aj [aa 44 12,au 45 .neq 44 0]) <|
  .cond (.tmp 45) (.seq (aj [ao 46 2 10,an 47 46,aa 48 12,((some 2),.op (.aX (.val (.emp 1)))),aa 3 47,aa 4 48]) <|
  .ret) (.skip)) <|
  .seq (.seq (aj [ao 49 0 10,an 50 49,au 51 .eql 50 9]) <|
  .cond (.tmp 51) (aj [aa 52 7,au 53 .add 52 1,aa 7 53]) (.skip)) <|
  .region [] [⟨none,[aa 54 5,aF 55 3 10,((some 56),.op (.aT 1 3 [(.val (.int .i64 0)),(.val (.string ⟨#[]⟩)),(.val (.complex .f64 0 0))] [(0,(.tmp 55))])),((some 57),.op (.app 3 40 (.tmp 54) (.tmp 56))),aa 58 11,aa 5 57,aa 6 58]⟩])
def lh:DF:=⟨.seq (aj [((some 2),.op (.aX (.val (.emp 1)))),((some 3),.op (.aX (.val (.val (.complex .f64 0 0))))),az 4 0]) <|
  .seq (.seq (aj [aa 13 0,aA 14 13,au 15 .gtr 14 4000]) <|
  .cond (.tmp 15) (.seq (aj [((some 2),.op (.aX (.val (.emp 1)))),((some 3),.op (.aX (.val (.val (.complex .f64 0 0))))),az 4 5]) <|
  .ret) (.skip)) <|
  .seq (aj [((some 5),.op (.aX (.val (.emp 1))))]) <|
  .seq (aj [az 6 0,az 7 0]) <|
  .seq (.block 0 (.loop sx)) <|
  .seq (aj [aa 59 5,aa 60 0,aa 61 0,aA 62 61,aJ 63 177 [60,62],aa 2 59,aa 3 63,az 4 0]) <|
  .ret,
  [.tmp 2,.tmp 3,.tmp 4],64⟩
theorem rr:aO Tryz.prog 120 []=some lh:=by kernel_rfl
def oJ:DF:=⟨.seq (aj [az 4 0,aM 5 false]) <|
  .seq (.block 0 (.seq (.region [] [⟨none,[aa 7 0,aa 8 1,aD 9 1 7 8,an 10 9,((some 11),.op (.arith .eql (.tmp 10) (.val (.val (.int .u8 32))))),aa 12 11]⟩,⟨(some (12,false)),[aa 13 0,aa 14 1,aD 15 1 13 14,an 16 15,((some 17),.op (.arith .eql (.tmp 16) (.val (.val (.int .u8 9)))))]⟩,⟨none,[aS 18 12 17,aa 19 18]⟩,⟨(some (19,false)),[aa 20 0,aa 21 1,aD 22 1 20 21,an 23 22,((some 24),.op (.arith .eql (.tmp 23) (.val (.val (.int .u8 10)))))]⟩,⟨none,[aS 25 19 24,aa 26 25]⟩,⟨(some (26,false)),[aa 27 0,aa 28 1,aD 29 1 27 28,an 30 29,((some 31),.op (.arith .eql (.tmp 30) (.val (.val (.int .u8 13)))))]⟩,⟨none,[aS 32 26 31,aa 6 32]⟩]) <|
  .cond (.tmp 6) (.seq (aj [aa 33 1,au 34 .add 33 1,aa 4 34,aM 5 true]) <|
  .ret) (.seq (.region [] [⟨none,[aa 36 0,aa 37 1,b6 38 215 [(.tmp 36),(.tmp 37),(.val (.val (.string ⟨#[47,42]⟩)))],aa 35 38]⟩]) <|
  .cond (.tmp 35) (.seq (.region [] [⟨none,[aa 39 0,aa 40 1,au 41 .add 40 2,b6 42 216 [(.tmp 39),(.tmp 41),(.val (.val (.string ⟨#[42,47]⟩)))],aa 4 42,aM 5 true]⟩]) <|
  .ret) (.seq (.region [] [⟨none,[aa 44 0,aa 45 1,b6 46 215 [(.tmp 44),(.tmp 45),(.val (.val (.string ⟨#[47,47]⟩)))],aa 43 46]⟩]) <|
  .cond (.tmp 43) (.seq (aj [aa 47 0,aa 48 1,aJ 49 217 [47,48],aa 4 49,aM 5 true]) <|
  .ret) (.seq (.region [] [⟨none,[aa 51 0,aa 52 1,b6 53 215 [(.tmp 51),(.tmp 52),(.val (.val (.string ⟨#[37,123]⟩)))],aa 50 53]⟩]) <|
  .cond (.tmp 50) (.seq (.region [] [⟨none,[aa 54 0,aa 55 1,au 56 .add 55 2,b6 57 216 [(.tmp 54),(.tmp 56),(.val (.val (.string ⟨#[37,125]⟩)))],aa 4 57,aM 5 true]⟩]) <|
  .ret) (.seq (aj [aa 59 0,aa 60 1,aD 61 1 59 60,an 62 61,((some 63),.op (.arith .eql (.tmp 62) (.val (.val (.int .u8 60))))),aa 58 63]) <|
  .cond (.tmp 58) (.seq (.region [] [⟨none,[aa 64 0,aa 65 0,aa 66 1,aJ 67 217 [65,66],((some 68),.op (.slice 1 (.tmp 64) none (some (.tmp 67)))),aa 69 1,au 70 .add 69 1,b6 71 216 [(.tmp 68),(.tmp 70),(.val (.val (.string ⟨#[62]⟩)))],aa 4 71,aM 5 true]⟩]) <|
  .ret) (.seq (aj [aa 73 0,aa 74 1,aD 75 1 73 74,an 76 75,((some 77),.op (.arith .eql (.tmp 76) (.val (.val (.int .u8 123))))),aa 72 77]) <|
  .cond (.tmp 72) (.seq (aj [aa 78 0,aa 79 1,aJ 80 218 [78,79],aa 4 80,aM 5 true]) <|
  .ret) (.skip)))))))) <|
  .seq (aj [aa 81 1,aa 4 81,aM 5 false]) <|
  .ret,
  [.tmp 4,.tmp 5],82⟩
theorem vc:aO Tryz.prog 176 []=some oJ:=by kernel_rfl
def pL:DF:=⟨.seq (aj [aM 6 false]) <|
  .seq (.region [] [⟨none,[aa 7 1,aa 8 2,((some 9),.op (.fY (.tmp 8))),aC 10 .add 7 9,aa 11 0,aA 12 11,aC 13 .leq 10 12,aa 14 13]⟩,⟨(some (14,true)),[aa 15 0,aa 16 1,aa 17 1,aa 18 2,((some 19),.op (.fY (.tmp 18))),aC 20 .add 17 19,((some 21),.op (.slice 1 (.tmp 15) (some (.tmp 16)) (some (.tmp 20)))),((some 22),.op (.old (.convert 73 9 (.tmp 21)) 9)),aa 23 2,((some 24),.op (.iq .eql (.tmp 22) (.tmp 23)))]⟩,⟨none,[bq 25 14 24,aa 6 25]⟩]) <|
  .ret,
  [.tmp 6],26⟩
theorem vf:aO Tryz.prog 215 []=some pL:=by kernel_rfl
def vZ:DC :=
  .seq (.seq (aj [aa 7 1,aa 8 0,aA 9 8,aC 10 .lss 7 9]) <|
  .cond (.tmp 10) (.skip) (.exit 0)) <|
  .block 1 (.seq (.seq (aj [aa 11 0,aa 12 1,aa 13 2,aJ 14 215 [11,12,13]]) <|
  .cond (.tmp 14) (.seq (aj [aa 15 1,aa 16 2,((some 17),.op (.fY (.tmp 16))),aC 18 .add 15 17,aa 6 18]) <|
  .ret) (.skip)) <|
  aj [aa 19 1,au 20 .add 19 1,aa 1 20])
def oA:DF:=⟨.seq (aj [az 6 0]) <|
  .seq (.block 0 (.loop vZ)) <|
  .seq (aj [az 6 (-1)]) <|
  .ret,
  [.tmp 6],21⟩
theorem um:aO Tryz.prog 216 []=some oA:=by kernel_rfl
def vu:DC :=
  .seq (.seq (.region [] [⟨none,[aa 5 1,aa 6 0,aA 7 6,aC 8 .lss 5 7,aa 9 8]⟩,⟨(some (9,true)),[aa 10 0,aa 11 1,aD 12 1 10 11,an 13 12,((some 14),.op (.arith .neq (.tmp 13) (.val (.val (.int .u8 10)))))]⟩,⟨none,[bq 15 9 14]⟩]) <|
  .cond (.tmp 15) (.skip) (.exit 0)) <|
  .block 1 (aj [aa 16 1,au 17 .add 16 1,aa 1 17])
def nT:DF:=⟨.seq (aj [az 4 0]) <|
  .seq (.block 0 (.loop vu)) <|
  .seq (aj [aa 18 1,aa 4 18]) <|
  .ret,
  [.tmp 4],19⟩
theorem uf:aO Tryz.prog 217 []=some nT:=by kernel_rfl
def sC:DC :=
  .seq (.seq (.region [] [⟨none,[aa 6 1,au 7 .geq 6 0,aa 8 7]⟩,⟨(some (8,true)),[aa 9 1,aa 10 0,aA 11 10,aC 12 .lss 9 11]⟩,⟨none,[bq 13 8 12]⟩]) <|
  .cond (.tmp 13) (.skip) (.exit 0)) <|
  .block 1 (.seq (.seq (aj [aa 14 0,aa 15 1,aD 16 1 14 15,an 17 16]) <|
  .block 2 (.seq (aj [((some 21),.op (.arith .eql (.tmp 17) (.val (.val (.int .u8 123))))),aa 20 21]) <|
  .cond (.tmp 20) (.seq (aj [aa 22 5,au 23 .add 22 1,aa 5 23]) <|
  aj [aa 24 1,au 25 .add 24 1,aa 1 25]) (.seq (aj [((some 27),.op (.arith .eql (.tmp 17) (.val (.val (.int .u8 125))))),aa 26 27]) <|
  .cond (.tmp 26) (.seq (aj [aa 28 5,au 29 .sub 28 1,aa 5 29]) <|
  aj [aa 30 1,au 31 .add 30 1,aa 1 31]) (.seq (.seq (aj [((some 33),.op (.arith .eql (.tmp 17) (.val (.val (.int .u8 39))))),aa 32 33]) <|
  .cond (.tmp 32) (.skip) (aj [((some 34),.op (.arith .eql (.tmp 17) (.val (.val (.int .u8 34))))),aa 32 34])) <|
  .cond (.tmp 32) (aj [aa 35 0,aa 36 1,aJ 37 234 [35,36],aa 1 37]) (aj [aa 18 1,au 19 .add 18 1,aa 1 19]))))) <|
  .seq (.region [] [⟨none,[aa 38 5,au 39 .eql 38 0,aa 40 39]⟩,⟨(some (40,true)),[aa 41 1,au 42 .geq 41 0]⟩,⟨none,[bq 43 40 42]⟩]) <|
  .cond (.tmp 43) (.seq (aj [aa 44 1,aa 4 44]) <|
  .ret) (.skip))
def ln:DF:=⟨.seq (aj [az 4 0]) <|
  .seq (aj [az 5 0]) <|
  .seq (.block 0 (.loop sC)) <|
  .seq (aj [az 4 (-1)]) <|
  .ret,
  [.tmp 4],45⟩
theorem ry:aO Tryz.prog 218 []=some ln:=by kernel_rfl
def sW:DC :=
  .seq (.seq (aj [aa 12 1,aa 13 0,aA 14 13,aC 15 .lss 12 14]) <|
  .cond (.tmp 15) (.skip) (.exit 0)) <|
  .block 1 (.seq (.seq (aj [aa 16 0,aa 17 1,aD 18 1 16 17,an 19 18,aa 20 5,aC 21 .eql 19 20]) <|
  .cond (.tmp 21) (.seq (aj [aa 22 1,au 23 .add 22 1,aa 4 23]) <|
  .ret) (.skip)) <|
  .seq (.seq (aj [aa 24 0,aa 25 1,aD 26 1 24 25,an 27 26,((some 28),.op (.arith .eql (.tmp 27) (.val (.val (.int .u8 92)))))]) <|
  .cond (.tmp 28) (aj [aa 29 1,au 30 .add 29 1,aa 1 30]) (.skip)) <|
  aj [aa 31 1,au 32 .add 31 1,aa 1 32])
def lU:DF:=⟨.seq (aj [az 4 0]) <|
  .seq (aj [aa 6 0,aa 7 1,aD 8 1 6 7,an 9 8,aa 5 9]) <|
  .seq (aj [aa 10 1,au 11 .add 10 1,aa 1 11]) <|
  .seq (.block 0 (.loop sW)) <|
  .seq (aj [az 4 (-1)]) <|
  .ret,
  [.tmp 4],33⟩
theorem rD:aO Tryz.prog 234 []=some lU:=by kernel_rfl
def yq:DC :=
  .seq (.seq (aj [aa 16 7,aa 17 1,aC 18 .lss 16 17]) <|
  .cond (.tmp 18) (.skip) (.exit 0)) <|
  .seq (.block 1 (.seq (aj [aa 21 6,au 22 .add 21 1,aa 6 22]) <|
  .seq (aj [aa 23 0,aa 24 7,aD 25 1 23 24,an 26 25,((some 27),.op (.arith .eql (.tmp 26) (.val (.val (.int .u8 10)))))]) <|
  .cond (.tmp 27) (aj [aa 28 5,au 29 .add 28 1,aa 5 29,az 6 1]) (.skip))) <|
  aj [aa 19 7,au 20 .add 19 1,aa 7 20]
def qT:DF:=⟨.seq (aj [((some 4),.op (.aX (.val (.val (.complex .f64 0 0)))))]) <|
  .seq (.seq (.region [] [⟨none,[aa 8 1,au 9 .lss 8 0,aa 10 9]⟩,⟨(some (10,false)),[aa 11 1,aa 12 0,aA 13 12,aC 14 .gtr 11 13]⟩,⟨none,[aS 15 10 14]⟩]) <|
  .cond (.tmp 15) (.seq (aj [((some 4),.op (.aX (.val (.val (.complex .f64 0 0)))))]) <|
  .ret) (.skip)) <|
  .seq (aj [az 5 1,az 6 1]) <|
  .seq (.seq (aj [az 7 0]) <|
  .block 0 (.loop yq)) <|
  .seq (aj [aa 30 5,aa 31 6,aJ 32 219 [30,31],aa 4 32]) <|
  .ret,
  [.tmp 4],33⟩
theorem xq:aO Tryz.prog 177 []=some qT:=by kernel_rfl
def qD:DF:=⟨.seq (aj [((some 4),.op (.aX (.val (.val (.complex .f64 0 0)))))]) <|
  .seq (.seq (.region [] [⟨none,[aa 5 0,au 6 .lss 5 1,aa 7 6]⟩,⟨(some (7,false)),[aa 8 0,au 9 .gtr 8 1073741824]⟩,⟨none,[aS 10 7 9,aa 11 10]⟩,⟨(some (11,false)),[aa 12 1,au 13 .lss 12 1]⟩,⟨none,[aS 14 11 13,aa 15 14]⟩,⟨(some (15,false)),[aa 16 1,au 17 .gtr 16 1073741824]⟩,⟨none,[aS 18 15 17]⟩]) <|
  .cond (.tmp 18) (.seq (aj [((some 4),.op (.aX (.val (.val (.complex .f64 0 0)))))]) <|
  .ret) (.skip)) <|
  .seq (aj [aa 19 0,((some 20),.op (.old (.convert 3 311 (.tmp 19)) 311)),aa 21 1,((some 22),.op (.old (.convert 3 311 (.tmp 21)) 311)),((some 23),.op (.old (.call { callee:=.builtin .complex,args:=#[(.tmp 20),(.tmp 22)],argTypes:=#[311,311] }) 70)),aa 4 23]) <|
  .ret,
  [.tmp 4],24⟩
theorem xc:aO Tryz.prog 219 []=some qD:=by kernel_rfl
def xo:DC :=
  .seq (.seq (.region [] [⟨none,[aa 27 9,aa 28 0,aA 29 28,aC 30 .lss 27 29,aa 31 30]⟩,⟨(some (31,true)),[aa 32 0,aa 33 9,aD 34 1 32 33,an 35 34,aJ 36 193 [35]]⟩,⟨none,[bq 37 31 36]⟩]) <|
  .cond (.tmp 37) (.skip) (.exit 1)) <|
  .block 2 (aj [aa 38 9,au 39 .add 38 1,aa 9 39])
def xd:DC :=
  .seq (.seq (aj [aa 58 10,au 59 .leq 58 4]) <|
  .cond (.tmp 59) (.skip) (.exit 3)) <|
  .seq (.block 4 (.seq (.region [] [⟨none,[aa 62 1,aa 63 10,aC 64 .add 62 63,aa 65 0,aA 66 65,aC 67 .leq 64 66,aa 68 67]⟩,⟨(some (68,true)),[aa 69 0,aa 70 1,aa 71 1,aa 72 10,aC 73 .add 71 72,((some 74),.op (.slice 1 (.tmp 69) (some (.tmp 70)) (some (.tmp 73)))),((some 75),.op (.old (.convert 73 9 (.tmp 74)) 9)),aJ 76 191 [75]]⟩,⟨none,[bq 77 68 76]⟩]) <|
  .cond (.tmp 77) (.seq (.region [(6,8)] [⟨none,[aa 78 0,aa 79 1,aa 80 1,aa 81 10,aC 82 .add 80 81,((some 83),.op (.slice 1 (.tmp 78) (some (.tmp 79)) (some (.tmp 82)))),((some 84),.op (.old (.convert 73 9 (.tmp 83)) 9)),ao 85 0 7,(none,.op (.store 1 (.tmp 85) (.val (.val (.int .i64 2))))),ao 86 1 7,(none,.op (.store 1 (.tmp 86) (.tmp 84)))]⟩]) <|
  .seq (aj [aF 87 3 7,aa 88 1,aa 89 10,aC 90 .add 88 89,(none,.op (.store 3 (.tmp 4) (.tmp 87))),aa 5 90,az 6 0]) <|
  .ret) (.skip))) <|
  aj [aa 60 10,au 61 .add 60 1,aa 10 61]
def xn:DC :=
  .seq (.seq (.region [] [⟨none,[aa 108 9,aa 109 0,aA 110 109,aC 111 .lss 108 110,aa 112 111]⟩,⟨(some (112,true)),[aa 113 0,aa 114 9,aD 115 1 113 114,an 116 115,((some 117),.op (.arith .geq (.tmp 116) (.val (.val (.int .u8 97)))))]⟩,⟨none,[bq 118 112 117,aa 119 118]⟩,⟨(some (119,true)),[aa 120 0,aa 121 9,aD 122 1 120 121,an 123 122,((some 124),.op (.arith .leq (.tmp 123) (.val (.val (.int .u8 122)))))]⟩,⟨none,[bq 125 119 124]⟩]) <|
  .cond (.tmp 125) (.skip) (.exit 5)) <|
  .block 6 (aj [aa 126 9,au 127 .add 126 1,aa 9 127])
def py:DF:=⟨.seq (.region [] [⟨none,[((some 4),.op (.alloc [(.val (.int .i64 0)),(.val (.string ⟨#[]⟩)),(.val (.complex .f64 0 0))])),az 5 0,az 6 0]⟩]) <|
  .seq (.region [] [⟨none,[aa 11 0,aa 12 1,aJ 13 177 [11,12],((some 14),.op (.build [(.val (.int .i64 0)),(.val (.string ⟨#[]⟩)),(.val (.complex .f64 0 0))] [(2,1,(.tmp 13))])),((some 7),.op (.alloc [(.val (.int .i64 0)),(.val (.string ⟨#[]⟩)),(.val (.complex .f64 0 0))])),(none,.op (.store 3 (.tmp 7) (.tmp 14)))]⟩]) <|
  .seq (aj [aa 15 0,aa 16 1,aD 17 1 15 16,an 18 17,aa 8 18]) <|
  .seq (aj [aa 19 1,au 20 .add 19 1,aa 9 20]) <|
  .seq (.block 0 (.seq (aj [aa 25 8,aJ 26 192 [25],aa 24 26]) <|
  .cond (.tmp 24) (.seq (.block 1 (.loop xo)) <|
  .seq (.seq (aj [aa 40 9,aa 41 1,aC 42 .sub 40 41,au 43 .gtr 42 20]) <|
  .cond (.tmp 43) (.seq (aj [aF 44 3 7,aa 45 9,(none,.op (.store 3 (.tmp 4) (.tmp 44))),aa 5 45,az 6 5]) <|
  .ret) (.skip)) <|
  .seq (.region [(4,6)] [⟨none,[aa 46 0,aa 47 1,aa 48 9,((some 49),.op (.slice 1 (.tmp 46) (some (.tmp 47)) (some (.tmp 48)))),((some 50),.op (.old (.convert 73 9 (.tmp 49)) 9)),ao 51 0 7,(none,.op (.store 1 (.tmp 51) (.val (.val (.int .i64 1))))),ao 52 1 7,(none,.op (.store 1 (.tmp 52) (.tmp 50)))]⟩]) <|
  .seq (aj [aF 53 3 7,aa 54 9,(none,.op (.store 3 (.tmp 4) (.tmp 53))),aa 5 54,az 6 0]) <|
  .ret) (.seq (aj [aa 56 8,((some 57),.op (.arith .eql (.tmp 56) (.val (.val (.int .u8 39))))),aa 55 57]) <|
  .cond (.tmp 55) (.seq (.seq (aj [az 10 3]) <|
  .block 3 (.loop xd)) <|
  .seq (.region [(0,5)] [⟨none,[aF 91 3 7,aa 92 9,aa 93 0,aa 94 1,((some 95),.op (.slice 1 (.tmp 93) (some (.tmp 94)) none)),aJ 96 220 [95],(none,.op (.store 3 (.tmp 4) (.tmp 91))),aa 5 92,aa 6 96]⟩]) <|
  .ret) (.seq (.region [] [⟨none,[aa 98 0,aa 99 1,b6 100 215 [(.tmp 98),(.tmp 99),(.val (.val (.string ⟨#[37,37]⟩)))],aa 97 100]⟩]) <|
  .cond (.tmp 97) (.seq (aj [ao 101 0 7,(none,.op (.store 1 (.tmp 101) (.val (.val (.int .i64 9)))))]) <|
  .seq (aj [aF 102 3 7,aa 103 1,au 104 .add 103 2,(none,.op (.store 3 (.tmp 4) (.tmp 102))),aa 5 104,az 6 0]) <|
  .ret) (.seq (aj [aa 106 8,((some 107),.op (.arith .eql (.tmp 106) (.val (.val (.int .u8 37))))),aa 105 107]) <|
  .cond (.tmp 105) (.seq (.block 5 (.loop xn)) <|
  aj [aa 128 0,aa 129 1,au 130 .add 129 1,aa 131 9,((some 132),.op (.slice 1 (.tmp 128) (some (.tmp 130)) (some (.tmp 131)))),((some 133),.op (.old (.convert 73 9 (.tmp 132)) 9)),aJ 134 221 [133],ao 135 0 7,(none,.op (.store 1 (.tmp 135) (.tmp 134)))]) (aj [aa 21 8,aJ 22 222 [21],ao 23 0 7,(none,.op (.store 1 (.tmp 23) (.tmp 22)))])))))) <|
  .seq (.seq (aj [ao 136 0 7,an 137 136,au 138 .eql 137 0]) <|
  .cond (.tmp 138) (.seq (aj [aF 139 3 7,aa 140 9,(none,.op (.store 3 (.tmp 4) (.tmp 139))),aa 5 140,az 6 3]) <|
  .ret) (.skip)) <|
  .seq (aj [aF 141 3 7,aa 142 9,(none,.op (.store 3 (.tmp 4) (.tmp 141))),aa 5 142,az 6 0]) <|
  .ret,
  [.cell 4 (some 3),.tmp 5,.tmp 6],143⟩
theorem vz:aO Tryz.prog 178 []=some py:=by kernel_rfl
def mN:DF:=⟨.seq (aj [aM 2 false]) <|
  .seq (.region [] [⟨none,[aa 3 0,aJ 4 192 [3],aa 5 4]⟩,⟨(some (5,false)),[aa 6 0,((some 7),.op (.arith .geq (.tmp 6) (.val (.val (.int .u8 48))))),aa 8 7]⟩,⟨(some (8,true)),[aa 9 0,((some 10),.op (.arith .leq (.tmp 9) (.val (.val (.int .u8 57)))))]⟩,⟨(some (5,false)),[bq 11 8 10]⟩,⟨none,[aS 12 5 11,aa 13 12]⟩,⟨(some (13,false)),[aa 14 0,((some 15),.op (.arith .eql (.tmp 14) (.val (.val (.int .u8 46)))))]⟩,⟨none,[aS 16 13 15,aa 2 16]⟩]) <|
  .ret,
  [.tmp 2],17⟩
theorem sA:aO Tryz.prog 193 []=some mN:=by kernel_rfl
def mT:DF:=⟨.seq (aj [aM 2 false]) <|
  .seq (.region [] [⟨none,[aa 3 0,((some 4),.op (.arith .geq (.tmp 3) (.val (.val (.int .u8 97))))),aa 5 4]⟩,⟨(some (5,true)),[aa 6 0,((some 7),.op (.arith .leq (.tmp 6) (.val (.val (.int .u8 122)))))]⟩,⟨none,[bq 8 5 7,aa 9 8]⟩,⟨(some (9,false)),[aa 10 0,((some 11),.op (.arith .geq (.tmp 10) (.val (.val (.int .u8 65))))),aa 12 11]⟩,⟨(some (12,true)),[aa 13 0,((some 14),.op (.arith .leq (.tmp 13) (.val (.val (.int .u8 90)))))]⟩,⟨(some (9,false)),[bq 15 12 14]⟩,⟨none,[aS 16 9 15,aa 17 16]⟩,⟨(some (17,false)),[aa 18 0,((some 19),.op (.arith .eql (.tmp 18) (.val (.val (.int .u8 95)))))]⟩,⟨none,[aS 20 17 19,aa 2 20]⟩]) <|
  .ret,
  [.tmp 2],21⟩
theorem sY:aO Tryz.prog 192 []=some mT:=by kernel_rfl
def kR:DF:=⟨.seq (aj [aM 2 false]) <|
  .seq (.seq (aj [aa 3 0,((some 4),.op (.fY (.tmp 3))),au 5 .eql 4 3]) <|
  .cond (.tmp 5) (.seq (.region [] [⟨none,[aa 6 0,((some 7),.op (.cM (.tmp 6) (.val (.val (.int .i64 0))))),((some 8),.op (.arith .eql (.tmp 7) (.val (.val (.int .u8 39))))),aa 9 8]⟩,⟨(some (9,true)),[aa 10 0,((some 11),.op (.cM (.tmp 10) (.val (.val (.int .i64 2))))),((some 12),.op (.arith .eql (.tmp 11) (.val (.val (.int .u8 39)))))]⟩,⟨none,[bq 13 9 12,aa 14 13]⟩,⟨(some (14,true)),[aa 15 0,((some 16),.op (.cM (.tmp 15) (.val (.val (.int .i64 1))))),((some 17),.op (.arith .geq (.tmp 16) (.val (.val (.int .u8 32)))))]⟩,⟨none,[bq 18 14 17,aa 19 18]⟩,⟨(some (19,true)),[aa 20 0,((some 21),.op (.cM (.tmp 20) (.val (.val (.int .i64 1))))),((some 22),.op (.arith .leq (.tmp 21) (.val (.val (.int .u8 126)))))]⟩,⟨none,[bq 23 19 22,aa 24 23]⟩,⟨(some (24,true)),[aa 25 0,((some 26),.op (.cM (.tmp 25) (.val (.val (.int .i64 1))))),((some 27),.op (.arith .neq (.tmp 26) (.val (.val (.int .u8 39)))))]⟩,⟨none,[bq 28 24 27,aa 29 28]⟩,⟨(some (29,true)),[aa 30 0,((some 31),.op (.cM (.tmp 30) (.val (.val (.int .i64 1))))),((some 32),.op (.arith .neq (.tmp 31) (.val (.val (.int .u8 92)))))]⟩,⟨none,[bq 33 29 32,aa 2 33]⟩]) <|
  .ret) (.skip)) <|
  .seq (.region [] [⟨none,[aa 34 0,((some 35),.op (.fY (.tmp 34))),au 36 .eql 35 4,aa 37 36]⟩,⟨(some (37,true)),[aa 38 0,((some 39),.op (.cM (.tmp 38) (.val (.val (.int .i64 0))))),((some 40),.op (.arith .eql (.tmp 39) (.val (.val (.int .u8 39)))))]⟩,⟨none,[bq 41 37 40,aa 42 41]⟩,⟨(some (42,true)),[aa 43 0,((some 44),.op (.cM (.tmp 43) (.val (.val (.int .i64 3))))),((some 45),.op (.arith .eql (.tmp 44) (.val (.val (.int .u8 39)))))]⟩,⟨none,[bq 46 42 45,aa 47 46]⟩,⟨(some (47,true)),[aa 48 0,((some 49),.op (.cM (.tmp 48) (.val (.val (.int .i64 1))))),((some 50),.op (.arith .eql (.tmp 49) (.val (.val (.int .u8 92)))))]⟩,⟨none,[bq 51 47 50,aa 52 51]⟩,⟨(some (52,true)),[aa 53 0,((some 54),.op (.cM (.tmp 53) (.val (.val (.int .i64 2))))),((some 55),.op (.arith .eql (.tmp 54) (.val (.val (.int .u8 110))))),aa 56 55]⟩,⟨(some (56,false)),[aa 57 0,((some 58),.op (.cM (.tmp 57) (.val (.val (.int .i64 2))))),((some 59),.op (.arith .eql (.tmp 58) (.val (.val (.int .u8 116)))))]⟩,⟨(some (52,true)),[aS 60 56 59,aa 61 60]⟩,⟨(some (61,false)),[aa 62 0,((some 63),.op (.cM (.tmp 62) (.val (.val (.int .i64 2))))),((some 64),.op (.arith .eql (.tmp 63) (.val (.val (.int .u8 92)))))]⟩,⟨(some (52,true)),[aS 65 61 64,aa 66 65]⟩,⟨(some (66,false)),[aa 67 0,((some 68),.op (.cM (.tmp 67) (.val (.val (.int .i64 2))))),((some 69),.op (.arith .eql (.tmp 68) (.val (.val (.int .u8 39)))))]⟩,⟨(some (52,true)),[aS 70 66 69]⟩,⟨none,[bq 71 52 70,aa 2 71]⟩]) <|
  .ret,
  [.tmp 2],72⟩
theorem qR:aO Tryz.prog 191 []=some kR:=by kernel_rfl
def rC:DC :=
  .seq (.seq (aj [aa 6 4,aa 7 3,aA 8 7,aC 9 .lss 6 8]) <|
  .cond (.tmp 9) (.skip) (.exit 0)) <|
  .seq (.block 1 (.seq (.region [(5,9)] [⟨none,[aa 12 0,aA 13 12,au 14 .lss 13 4,aa 15 14]⟩,⟨(some (15,true)),[aa 16 0,((some 17),.op (.old (.convert 73 9 (.tmp 16)) 9)),aa 18 3,aa 19 4,aD 20 1 18 19,an 21 20,((some 22),.op (.iq .add (.tmp 17) (.tmp 21))),aJ 23 191 [22]]⟩,⟨none,[bq 24 15 23]⟩]) <|
  .cond (.tmp 24) (.seq (aj [az 2 4]) <|
  .ret) (.skip))) <|
  aj [aa 10 4,au 11 .add 10 1,aa 4 11]
def kq:DF:=⟨.seq (aj [az 2 0]) <|
  .seq (.region [] [⟨none,[((some 5),.op (.aT 5 1 [(.val (.string ⟨#[]⟩))] [(0,(.val (.val (.string ⟨#[120,39]⟩)))),(1,(.val (.val (.string ⟨#[39]⟩)))),(2,(.val (.val (.string ⟨#[92,110,39]⟩)))),(3,(.val (.val (.string ⟨#[110,39]⟩)))),(4,(.val (.val (.string ⟨#[92,39,39]⟩))))])),aa 3 5]⟩]) <|
  .seq (.seq (aj [az 4 0]) <|
  .block 0 (.loop rC)) <|
  .seq (aj [az 2 3]) <|
  .ret,
  [.tmp 2],25⟩
theorem qI:aO Tryz.prog 220 []=some kq:=by kernel_rfl
def kp:DF:=⟨.seq (aj [az 2 0]) <|
  .seq (.seq (aj [aa 3 0]) <|
  .block 0 (.seq (.region [] [⟨none,[((some 5),.op (.iq .eql (.tmp 3) (.val (.val (.string ⟨#[116,111,107,101,110]⟩))))),aa 4 5]⟩]) <|
  .cond (.tmp 4) (.seq (aj [az 2 3]) <|
  .ret) (.seq (.region [] [⟨none,[((some 7),.op (.iq .eql (.tmp 3) (.val (.val (.string ⟨#[108,101,102,116]⟩))))),aa 6 7]⟩]) <|
  .cond (.tmp 6) (.seq (aj [az 2 4]) <|
  .ret) (.seq (.region [] [⟨none,[((some 9),.op (.iq .eql (.tmp 3) (.val (.val (.string ⟨#[114,105,103,104,116]⟩))))),aa 8 9]⟩]) <|
  .cond (.tmp 8) (.seq (aj [az 2 5]) <|
  .ret) (.seq (.region [] [⟨none,[((some 11),.op (.iq .eql (.tmp 3) (.val (.val (.string ⟨#[110,111,110,97,115,115,111,99]⟩))))),aa 10 11]⟩]) <|
  .cond (.tmp 10) (.seq (aj [az 2 6]) <|
  .ret) (.seq (.region [] [⟨none,[((some 13),.op (.iq .eql (.tmp 3) (.val (.val (.string ⟨#[115,116,97,114,116]⟩))))),aa 12 13]⟩]) <|
  .cond (.tmp 12) (.seq (aj [az 2 7]) <|
  .ret) (.seq (.region [] [⟨none,[((some 15),.op (.iq .eql (.tmp 3) (.val (.val (.string ⟨#[112,114,101,99]⟩))))),aa 14 15]⟩]) <|
  .cond (.tmp 14) (.seq (aj [az 2 8]) <|
  .ret) (.skip)))))))) <|
  .seq (aj [az 2 0]) <|
  .ret,
  [.tmp 2],16⟩
theorem qy:aO Tryz.prog 221 []=some kp:=by kernel_rfl
def nP:DF:=⟨.seq (aj [az 2 0]) <|
  .seq (.seq (aj [aa 3 0]) <|
  .block 0 (.seq (aj [((some 5),.op (.arith .eql (.tmp 3) (.val (.val (.int .u8 58))))),aa 4 5]) <|
  .cond (.tmp 4) (.seq (aj [az 2 10]) <|
  .ret) (.seq (aj [((some 7),.op (.arith .eql (.tmp 3) (.val (.val (.int .u8 124))))),aa 6 7]) <|
  .cond (.tmp 6) (.seq (aj [az 2 11]) <|
  .ret) (.seq (aj [((some 9),.op (.arith .eql (.tmp 3) (.val (.val (.int .u8 59))))),aa 8 9]) <|
  .cond (.tmp 8) (.seq (aj [az 2 12]) <|
  .ret) (.skip))))) <|
  .seq (aj [az 2 0]) <|
  .ret,
  [.tmp 2],10⟩
theorem uK:aO Tryz.prog 222 []=some nP:=by kernel_rfl
def xN:DC :=
  .seq (.seq (.region [] [⟨none,[aa 21 7,bh 22 21,ao 23 3 22,an 24 23,au 25 .eql 24 0,aa 26 25]⟩,⟨(some (26,true)),[aa 27 7,bh 28 27,ao 29 0 28,an 30 29,aA 31 30,au 32 .gtr 31 0]⟩,⟨none,[bq 33 26 32,aa 34 33]⟩,⟨(some (34,true)),[aa 35 7,aJ 36 182 [35],au 37 .neq 36 9]⟩,⟨none,[bq 38 34 37]⟩]) <|
  .cond (.tmp 38) (.skip) (.exit 0)) <|
  .block 1 (.region [(1,3)] [⟨none,[ao 39 1 8,an 40 39,aa 41 7,aJ 42 181 [41],((some 43),.op (.app 5 88 (.tmp 40) (.tmp 42))),ao 44 1 8,(none,.op (.store 1 (.tmp 44) (.tmp 43)))]⟩])
def rf:DF:=⟨.seq (aj [((some 4),.op (.alloc [(.emp 1),(.emp 1)])),((some 5),.op (.aX (.val (.val (.complex .f64 0 0))))),az 6 0]) <|
  .seq (aj [aa 9 0,aa 10 1,((some 11),.op (.build [(.emp 1),(.val (.complex .f64 0 0)),(.val (.complex .f64 0 0)),(.val (.int .i64 0))] [(0,1,(.tmp 9)),(1,1,(.tmp 10))])),((some 12),.op (.box (.tmp 11))),aa 7 12]) <|
  .seq (aj [aa 13 7,aJ 14 179 [13],((some 15),.op (.build [(.emp 1),(.emp 1)] [(0,1,(.tmp 14))])),((some 8),.op (.alloc [(.emp 1),(.emp 1)])),(none,.op (.store 2 (.tmp 8) (.tmp 15)))]) <|
  .seq (aj [aa 16 7,b6 17 180 [(.tmp 16),(.val (.val (.int .i64 9))),(.val (.val (.int .i64 9)))]]) <|
  .seq (aj [aa 18 7,aJ 19 181 [18],ao 20 1 8,(none,.op (.store 1 (.tmp 20) (.tmp 19)))]) <|
  .seq (.block 0 (.loop xN)) <|
  .seq (.seq (.region [] [⟨none,[aa 45 7,bh 46 45,ao 47 3 46,an 48 47,au 49 .eql 48 0,aa 50 49]⟩,⟨(some (50,true)),[aa 51 7,bh 52 51,ao 53 0 52,an 54 53,aA 55 54,au 56 .gtr 55 0]⟩,⟨none,[bq 57 50 56]⟩]) <|
  .cond (.tmp 57) (aj [aa 58 7,b6 59 180 [(.tmp 58),(.val (.val (.int .i64 9))),(.val (.val (.int .i64 9)))]]) (.skip)) <|
  .seq (.seq (aj [aa 60 7,bh 61 60,ao 62 0 61,an 63 62,aA 64 63,au 65 .gtr 64 0]) <|
  .cond (.tmp 65) (aj [aa 66 7,aJ 67 183 [66]]) (.skip)) <|
  .seq (.seq (aj [aa 68 7,bh 69 68,ao 70 3 69,an 71 70,au 72 .neq 71 0]) <|
  .cond (.tmp 72) (.seq (.region [(4,9),(8,9)] [⟨none,[((some 73),.op (.build [(.emp 1),(.emp 1)] [])),aa 74 7,bh 75 74,ao 76 2 75,an 77 76,aa 78 7,bh 79 78,ao 80 3 79,an 81 80,(none,.op (.store 2 (.tmp 4) (.tmp 73))),aa 5 77,aa 6 81]⟩]) <|
  .ret) (.skip)) <|
  .seq (aj [aF 82 2 8,(none,.op (.store 2 (.tmp 4) (.tmp 82))),((some 5),.op (.aX (.val (.val (.complex .f64 0 0))))),az 6 0]) <|
  .ret,
  [.cell 4 (some 2),.tmp 5,.tmp 6],83⟩
theorem xp:aO Tryz.prog 121 []=some rf:=by kernel_rfl
def ir:DF:=⟨.seq (aj [az 2 0]) <|
  .seq (.seq (.region [] [⟨none,[aa 3 0,bh 4 3,ao 5 3 4,an 6 5,au 7 .neq 6 0,aa 8 7]⟩,⟨(some (8,false)),[aa 9 0,bh 10 9,ao 11 0 10,an 12 11,aA 13 12,au 14 .eql 13 0]⟩,⟨none,[aS 15 8 14]⟩]) <|
  .cond (.tmp 15) (.seq (aj [az 2 0]) <|
  .ret) (.skip)) <|
  .seq (aj [aa 16 0,bh 17 16,ao 18 0 17,an 19 18,((some 20),.op (.idx 3 (.tmp 19) (.val (.val (.int .i64 0))))),ao 21 0 20,an 22 21,aa 2 22]) <|
  .ret,
  [.tmp 2],23⟩
theorem nq:aO Tryz.prog 182 []=some ir:=by kernel_rfl
def m3:DC :=
  .seq (.seq (aj [aa 10 0,bh 11 10,ao 12 3 11,an 13 12,au 14 .eql 13 0]) <|
  .cond (.tmp 14) (.skip) (.exit 0)) <|
  .block 1 (.seq (.region [(0,2),(2,4)] [⟨none,[aF 15 2 4,aa 16 0,aJ 17 223 [16],((some 18),.op (.build [(.val (.string ⟨#[]⟩)),(.val (.complex .f64 0 0)),(.emp 1),(.val (.string ⟨#[]⟩)),(.val (.complex .f64 0 0))] [(0,2,(.tmp 15)),(2,1,(.tmp 17))])),((some 5),.op (.alloc [(.val (.string ⟨#[]⟩)),(.val (.complex .f64 0 0)),(.emp 1),(.val (.string ⟨#[]⟩)),(.val (.complex .f64 0 0))])),(none,.op (.store 5 (.tmp 5) (.tmp 18)))]⟩]) <|
  .seq (.seq (aj [aa 19 0,b6 20 224 [(.tmp 19),(.val (.val (.int .i64 8))),(.val (.val (.int .i64 8)))]]) <|
  .cond (.tmp 20) (.seq (aj [aa 21 0,b6 22 180 [(.tmp 21),(.val (.val (.int .i64 8))),(.val (.val (.int .i64 8)))]]) <|
  aj [aa 23 0,b6 24 180 [(.tmp 23),(.val (.val (.int .i64 1))),(.val (.val (.int .i64 2)))],ao 25 3 5,(none,.op (.store 2 (.tmp 25) (.tmp 24)))]) (.skip)) <|
  .seq (.region [] [⟨none,[aa 26 3,aF 27 5 5,((some 28),.op (.aT 1 5 [(.val (.string ⟨#[]⟩)),(.val (.complex .f64 0 0)),(.emp 1),(.val (.string ⟨#[]⟩)),(.val (.complex .f64 0 0))] [(0,(.tmp 27))])),((some 29),.op (.app 5 88 (.tmp 26) (.tmp 28))),aa 3 29]⟩]) <|
  .seq (.seq (aj [aa 30 0,b6 31 224 [(.tmp 30),(.val (.val (.int .i64 11))),(.val (.val (.int .i64 11)))],bC 32 31]) <|
  .cond (.tmp 32) (.seq (aj [aa 33 0,b6 34 180 [(.tmp 33),(.val (.val (.int .i64 12))),(.val (.val (.int .i64 12)))]]) <|
  .seq (aj [aa 35 3,aa 2 35]) <|
  .ret) (.skip)) <|
  aj [aa 36 0,b6 37 180 [(.tmp 36),(.val (.val (.int .i64 11))),(.val (.val (.int .i64 11)))]])
def gY:DF:=⟨.seq (aj [((some 2),.op (.aX (.val (.emp 1))))]) <|
  .seq (aj [((some 3),.op (.aX (.val (.emp 1))))]) <|
  .seq (.region [] [⟨none,[aa 6 0,b6 7 180 [(.tmp 6),(.val (.val (.int .i64 1))),(.val (.val (.int .i64 1)))],((some 4),.op (.alloc [(.val (.string ⟨#[]⟩)),(.val (.complex .f64 0 0))])),(none,.op (.store 2 (.tmp 4) (.tmp 7)))]⟩]) <|
  .seq (aj [aa 8 0,b6 9 180 [(.tmp 8),(.val (.val (.int .i64 10))),(.val (.val (.int .i64 10)))]]) <|
  .seq (.block 0 (.loop m3)) <|
  .seq (aj [aa 38 3,aa 2 38]) <|
  .ret,
  [.tmp 2],39⟩
theorem mf:aO Tryz.prog 181 []=some gY:=by kernel_rfl
def oK:DC :=
  .seq (.seq (aj [aa 4 0,b6 5 224 [(.tmp 4),(.val (.val (.int .i64 1))),(.val (.val (.int .i64 2)))]]) <|
  .cond (.tmp 5) (.skip) (.exit 0)) <|
  .block 1 (.region [] [⟨none,[aa 6 3,aa 7 0,b6 8 180 [(.tmp 7),(.val (.val (.int .i64 1))),(.val (.val (.int .i64 2)))],((some 9),.op (.aT 1 2 [(.val (.string ⟨#[]⟩)),(.val (.complex .f64 0 0))] [(0,(.tmp 8))])),((some 10),.op (.app 2 32 (.tmp 6) (.tmp 9))),aa 3 10]⟩])
def iw:DF:=⟨.seq (aj [((some 2),.op (.aX (.val (.emp 1))))]) <|
  .seq (aj [((some 3),.op (.aX (.val (.emp 1))))]) <|
  .seq (.block 0 (.loop oK)) <|
  .seq (aj [aa 11 3,aa 2 11]) <|
  .ret,
  [.tmp 2],12⟩
theorem m5:aO Tryz.prog 223 []=some iw:=by kernel_rfl
def jv:DF:=⟨.seq (aj [aM 6 false]) <|
  .seq (.region [] [⟨none,[aa 7 0,bh 8 7,ao 9 0 8,an 10 9,aA 11 10,au 12 .gtr 11 0,aa 13 12]⟩,⟨(some (13,true)),[aa 14 0,aJ 15 182 [14],aa 16 1,aC 17 .eql 15 16,aa 18 17]⟩,⟨(some (18,false)),[aa 19 0,aJ 20 182 [19],aa 21 2,aC 22 .eql 20 21]⟩,⟨(some (13,true)),[aS 23 18 22]⟩,⟨none,[bq 24 13 23,aa 6 24]⟩]) <|
  .ret,
  [.tmp 6],25⟩
theorem oZ:aO Tryz.prog 224 []=some jv:=by kernel_rfl
def ij:DF:=⟨.seq (.region [] [⟨none,[((some 6),.op (.alloc [(.val (.string ⟨#[]⟩)),(.val (.complex .f64 0 0))]))]⟩]) <|
  .seq (.seq (.region [] [⟨none,[aa 8 0,bh 9 8,ao 10 3 9,an 11 10,au 12 .neq 11 0,aa 13 12]⟩,⟨(some (13,false)),[aa 14 0,aa 15 1,aa 16 2,aJ 17 224 [14,15,16],bC 18 17]⟩,⟨none,[aS 19 13 18]⟩]) <|
  .cond (.tmp 19) (.seq (aj [aa 20 0,aJ 21 183 [20]]) <|
  .seq (.region [] [⟨none,[((some 22),.op (.build [(.val (.string ⟨#[]⟩)),(.val (.complex .f64 0 0))] [])),(none,.op (.store 2 (.tmp 6) (.tmp 22)))]⟩]) <|
  .ret) (.skip)) <|
  .seq (.region [] [⟨none,[aa 23 0,bh 24 23,ao 25 0 24,an 26 25,((some 27),.op (.idx 3 (.tmp 26) (.val (.val (.int .i64 0))))),aF 28 3 27,((some 7),.op (.alloc [(.val (.int .i64 0)),(.val (.string ⟨#[]⟩)),(.val (.complex .f64 0 0))])),(none,.op (.store 3 (.tmp 7) (.tmp 28)))]⟩]) <|
  .seq (aj [aa 29 0,aa 30 0,bh 31 30,ao 32 0 31,an 33 32,((some 34),.op (.slice 3 (.tmp 33) (some (.val (.val (.int .i64 1)))) none)),bh 35 29,ao 36 0 35,(none,.op (.store 1 (.tmp 36) (.tmp 34)))]) <|
  .seq (.region [] [⟨none,[ao 37 1 7,an 38 37,ao 39 2 7,an 40 39,((some 41),.op (.build [(.val (.string ⟨#[]⟩)),(.val (.complex .f64 0 0))] [(0,1,(.tmp 38)),(1,1,(.tmp 40))])),(none,.op (.store 2 (.tmp 6) (.tmp 41)))]⟩]) <|
  .ret,
  [.cell 6 (some 2)],42⟩
theorem m4:aO Tryz.prog 180 []=some ij:=by kernel_rfl
def iv:DF:=⟨.seq (.seq (aj [aa 2 0,bh 3 2,ao 4 3 3,an 5 4,au 6 .neq 5 0]) <|
  .cond (.tmp 6) (.ret) (.skip)) <|
  .seq (aj [aa 7 0,aa 8 0,aa 9 0,bh 10 9,ao 11 1 10,an 12 11,bh 13 7,ao 14 2 13,(none,.op (.store 1 (.tmp 14) (.tmp 12))),bh 15 8,ao 16 3 15,(none,.op (.store 1 (.tmp 16) (.val (.val (.int .i64 4)))))]) <|
  .seq (aj [aa 17 0,bh 18 17,ao 19 0 18,an 20 19,aA 21 20,au 22 .gtr 21 0]) <|
  .cond (.tmp 22) (aj [aa 23 0,aa 24 0,aa 25 0,bh 26 25,ao 27 0 26,an 28 27,((some 29),.op (.idx 3 (.tmp 28) (.val (.val (.int .i64 0))))),ao 30 2 29,an 31 30,bh 32 23,ao 33 2 32,(none,.op (.store 1 (.tmp 33) (.tmp 31))),bh 34 24,ao 35 3 34,(none,.op (.store 1 (.tmp 35) (.val (.val (.int .i64 3)))))]) (.skip),
  [],36⟩
theorem nt:aO Tryz.prog 183 []=some iv:=by kernel_rfl
def nr:DC :=
  .seq (.seq (.region [] [⟨none,[aa 6 0,bh 7 6,ao 8 3 7,an 9 8,au 10 .eql 9 0,aa 11 10]⟩,⟨(some (11,true)),[aa 12 0,bh 13 12,ao 14 0 13,an 15 14,aA 16 15,au 17 .gtr 16 0]⟩,⟨none,[bq 18 11 17,aa 19 18]⟩,⟨(some (19,true)),[aa 20 0,aJ 21 182 [20],au 22 .neq 21 9]⟩,⟨none,[bq 23 19 22]⟩]) <|
  .cond (.tmp 23) (.skip) (.exit 0)) <|
  .block 1 (.seq (aj [aa 24 0,aJ 25 182 [24],aa 4 25]) <|
  .seq (.seq (aj [aa 26 4,au 27 .eql 26 7]) <|
  .cond (.tmp 27) (.seq (aj [aa 28 0,aa 29 4,aa 30 4,aJ 31 180 [28,29,30]]) <|
  .seq (.region [] [⟨none,[aa 32 3,aa 33 4,aa 34 0,b6 35 180 [(.tmp 34),(.val (.val (.int .i64 1))),(.val (.val (.int .i64 1)))],((some 36),.op (.aT 1 2 [(.val (.string ⟨#[]⟩)),(.val (.complex .f64 0 0))] [(0,(.tmp 35))])),((some 37),.op (.build [(.val (.int .i64 0)),(.emp 1)] [(0,1,(.tmp 33)),(1,1,(.tmp 36))])),((some 38),.op (.aT 1 2 [(.val (.int .i64 0)),(.emp 1)] [(0,(.tmp 37))])),((some 39),.op (.app 2 32 (.tmp 32) (.tmp 38))),aa 3 39]⟩]) <|
  .exit 1) (.skip)) <|
  .seq (.seq (.region [] [⟨none,[aa 40 4,au 41 .neq 40 3,aa 42 41]⟩,⟨(some (42,true)),[aa 43 4,au 44 .neq 43 4]⟩,⟨none,[bq 45 42 44,aa 46 45]⟩,⟨(some (46,true)),[aa 47 4,au 48 .neq 47 5]⟩,⟨none,[bq 49 46 48,aa 50 49]⟩,⟨(some (50,true)),[aa 51 4,au 52 .neq 51 6]⟩,⟨none,[bq 53 50 52]⟩]) <|
  .cond (.tmp 53) (.seq (aj [aa 54 0,aJ 55 183 [54]]) <|
  .exit 1) (.skip)) <|
  .seq (aj [aa 56 0,aa 57 4,aa 58 4,aJ 59 180 [56,57,58]]) <|
  .seq (.region [] [⟨none,[aa 60 0,b6 61 180 [(.tmp 60),(.val (.val (.int .i64 1))),(.val (.val (.int .i64 2)))],((some 5),.op (.alloc [(.val (.string ⟨#[]⟩)),(.val (.complex .f64 0 0))])),(none,.op (.store 2 (.tmp 5) (.tmp 61)))]⟩]) <|
  .region [(2,5),(3,5)] [⟨none,[aa 62 3,aa 63 4,aF 64 2 5,((some 65),.op (.aT 1 2 [(.val (.string ⟨#[]⟩)),(.val (.complex .f64 0 0))] [(0,(.tmp 64))])),aa 66 0,aJ 67 223 [66],((some 68),.op (.app 2 32 (.tmp 65) (.tmp 67))),((some 69),.op (.build [(.val (.int .i64 0)),(.emp 1)] [(0,1,(.tmp 63)),(1,1,(.tmp 68))])),((some 70),.op (.aT 1 2 [(.val (.int .i64 0)),(.emp 1)] [(0,(.tmp 69))])),((some 71),.op (.app 2 32 (.tmp 62) (.tmp 70))),aa 3 71]⟩])
def gX:DF:=⟨.seq (aj [((some 2),.op (.aX (.val (.emp 1))))]) <|
  .seq (aj [((some 3),.op (.aX (.val (.emp 1))))]) <|
  .seq (.block 0 (.loop nr)) <|
  .seq (aj [aa 72 3,aa 2 72]) <|
  .ret,
  [.tmp 2],73⟩
theorem mc:aO Tryz.prog 179 []=some gX:=by kernel_rfl
def uy:DC :=
  .seq (.seq (.region [] [⟨none,[aa 17 6,ao 18 1 1,an 19 18,aA 20 19,aC 21 .lss 17 20,aa 22 21]⟩,⟨(some (22,true)),[aa 23 5,bh 24 23,ao 25 10 24,an 26 25,au 27 .eql 26 0]⟩,⟨none,[bq 28 22 27]⟩]) <|
  .cond (.tmp 28) (.skip) (.exit 0)) <|
  .seq (.block 1 (aj [aa 31 5,ao 32 1 1,an 33 32,aa 34 6,aD 35 5 33 34,aF 36 5 35,aJ 37 124 [31,36]])) <|
  aj [aa 29 6,au 30 .add 29 1,aa 6 30]
def mC:DF:=⟨.seq (aj [bz 1 0,((some 2),.op (.alloc [(.emp 1),(.emp 1),(.emp 1),(.val (.int .i64 0))])),((some 3),.op (.aX (.val (.val (.complex .f64 0 0))))),az 4 0]) <|
  .seq (.region [] [⟨none,[((some 7),.op (.build [(.emp 1),(.emp 1),(.emp 1),(.val (.int .i64 0)),(.emp 1),(.val (.string ⟨#[]⟩)),(.val (.complex .f64 0 0)),(.val (.bool false)),(.val (.int .i64 0)),(.val (.complex .f64 0 0)),(.val (.int .i64 0))] [])),((some 8),.op (.box (.tmp 7))),aa 5 8]⟩]) <|
  .seq (aj [aa 9 5,ao 10 0 1,an 11 10,aJ 12 122 [9,11]]) <|
  .seq (aj [aa 13 5,ao 14 1 1,an 15 14,aJ 16 123 [13,15]]) <|
  .seq (.seq (aj [az 6 0]) <|
  .block 0 (.loop uy)) <|
  .seq (.seq (.region [] [⟨none,[aa 38 5,bh 39 38,ao 40 7 39,an 41 40,aa 42 41]⟩,⟨(some (42,true)),[aa 43 5,bh 44 43,ao 45 0 44,aF 46 4 45,aa 47 5,bh 48 47,ao 49 5 48,ao 50 0 49,an 51 50,aJ 52 125 [46,51],au 53 .lss 52 0]⟩,⟨none,[bq 54 42 53]⟩]) <|
  .cond (.tmp 54) (aj [aa 55 5,aa 56 5,bh 57 56,ao 58 5 57,aF 59 2 58,b6 60 126 [(.tmp 55),(.tmp 59),(.val (.val (.int .i64 8)))]]) (.skip)) <|
  .seq (.seq (aj [ao 61 1 1,an 62 61,aA 63 62,au 64 .eql 63 0]) <|
  .cond (.tmp 64) (.region [] [⟨none,[aa 65 5,((some 66),.op (.build [(.val (.string ⟨#[]⟩)),(.val (.complex .f64 0 0))] [])),b6 67 126 [(.tmp 65),(.tmp 66),(.val (.val (.int .i64 8)))]]⟩]) (.skip)) <|
  .seq (.seq (aj [aa 68 5,bh 69 68,ao 70 10 69,an 71 70,au 72 .neq 71 0]) <|
  .cond (.tmp 72) (.seq (.region [(4,9),(8,9)] [⟨none,[((some 73),.op (.build [(.emp 1),(.emp 1),(.emp 1),(.val (.int .i64 0))] [])),aa 74 5,bh 75 74,ao 76 9 75,an 77 76,aa 78 5,bh 79 78,ao 80 10 79,an 81 80,(none,.op (.store 4 (.tmp 2) (.tmp 73))),aa 3 77,aa 4 81]⟩]) <|
  .ret) (.skip)) <|
  .seq (.seq (aj [aa 82 5,bh 83 82,ao 84 7 83,an 85 84]) <|
  .cond (.tmp 85) (aj [aa 86 5,aa 87 5,bh 88 87,ao 89 0 88,aF 90 4 89,aa 91 5,bh 92 91,ao 93 5 92,ao 94 0 93,an 95 94,aJ 96 125 [90,95],bh 97 86,ao 98 0 97,ao 99 3 98,(none,.op (.store 1 (.tmp 99) (.tmp 96)))]) (.skip)) <|
  .seq (aj [aa 100 5,bh 101 100,ao 102 0 101,aF 103 4 102,(none,.op (.store 4 (.tmp 2) (.tmp 103))),((some 3),.op (.aX (.val (.val (.complex .f64 0 0))))),az 4 0]) <|
  .ret,
  [.cell 2 (some 4),.tmp 3,.tmp 4],104⟩
theorem sE:aO Tryz.prog 71 [1]=some mC:=by kernel_rfl
def pN:DC :=
  .seq (.seq (.region [] [⟨none,[aa 28 5,ao 29 2 3,an 30 29,aA 31 30,aC 32 .lss 28 31,aa 33 32]⟩,⟨(some (33,true)),[aa 34 0,bh 35 34,ao 36 10 35,an 37 36,au 38 .eql 37 0]⟩,⟨none,[bq 39 33 38]⟩]) <|
  .cond (.tmp 39) (.skip) (.exit 0)) <|
  .seq (.block 1 (.seq (.region [] [⟨none,[ao 42 2 3,an 43 42,aa 44 5,aD 45 2 43 44,aF 46 2 45,((some 6),.op (.alloc [(.val (.string ⟨#[]⟩)),(.val (.complex .f64 0 0))])),(none,.op (.store 2 (.tmp 6) (.tmp 46)))]⟩]) <|
  .seq (.seq (aj [ao 47 0 6,an 48 47,aJ 49 139 [48],bC 50 49]) <|
  .cond (.tmp 50) (.seq (aj [aa 51 0,aF 52 2 6,b6 53 126 [(.tmp 51),(.tmp 52),(.val (.val (.int .i64 3)))]]) <|
  .ret) (.skip)) <|
  .seq (.seq (aj [aa 54 5,au 55 .eql 54 6]) <|
  .cond (.tmp 55) (.seq (aj [aa 56 0,aF 57 2 6,b6 58 126 [(.tmp 56),(.tmp 57),(.val (.val (.int .i64 5)))]]) <|
  .ret) (.skip)) <|
  .seq (aj [aa 59 0,aF 60 2 6,b6 61 185 [(.tmp 59),(.tmp 60),(.val (.val (.bool true)))],aa 7 61]) <|
  .seq (aj [ao 62 1 4,an 63 62,aa 64 7,((some 65),.op (.aT 1 1 [(.val (.int .i64 0))] [(0,(.tmp 64))])),((some 66),.op (.app 1 8 (.tmp 63) (.tmp 65))),ao 67 1 4,(none,.op (.store 1 (.tmp 67) (.tmp 66)))]) <|
  .seq (aj [aa 68 7,au 69 .geq 68 0]) <|
  .cond (.tmp 69) (aj [aa 70 7,ao 71 2 4,(none,.op (.store 1 (.tmp 71) (.tmp 70)))]) (.skip))) <|
  aj [aa 40 5,au 41 .add 40 1,aa 5 41]
def jz:DF:=⟨.seq (aj [bz 3 1]) <|
  .seq (.region [(7,9)] [⟨none,[aa 8 0,bh 9 8,ao 10 0 9,aF 11 4 10,ao 12 0 3,ao 13 0 12,an 14 13,aJ 15 125 [11,14],((some 16),.op (.build [(.val (.int .i64 0)),(.emp 1),(.val (.int .i64 0))] [(0,1,(.tmp 15)),(2,1,(.val (.val (.int .i64 (-1)))))])),((some 4),.op (.alloc [(.val (.int .i64 0)),(.emp 1),(.val (.int .i64 0))])),(none,.op (.store 3 (.tmp 4) (.tmp 16)))]⟩]) <|
  .seq (.seq (aj [aa 17 0,bh 18 17,ao 19 0 18,ao 20 2 19,an 21 20,aA 22 21,au 23 .eql 22 40]) <|
  .cond (.tmp 23) (aj [aa 24 0,ao 25 0 3,aF 26 2 25,b6 27 126 [(.tmp 24),(.tmp 26),(.val (.val (.int .i64 5)))]]) (.skip)) <|
  .seq (.seq (aj [az 5 0]) <|
  .block 0 (.loop pN)) <|
  .seq (.seq (.region [] [⟨none,[ao 72 3 3,ao 73 0 72,an 74 73,((some 75),.op (.iq .neq (.tmp 74) (.val (.val (.string ⟨#[]⟩))))),aa 76 75]⟩,⟨(some (76,true)),[aa 77 0,bh 78 77,ao 79 10 78,an 80 79,au 81 .eql 80 0]⟩,⟨none,[bq 82 76 81]⟩]) <|
  .cond (.tmp 82) (.seq (.seq (aj [ao 83 3 3,ao 84 0 83,an 85 84,aJ 86 139 [85],bC 87 86]) <|
  .cond (.tmp 87) (.seq (aj [aa 88 0,ao 89 3 3,aF 90 2 89,b6 91 126 [(.tmp 88),(.tmp 90),(.val (.val (.int .i64 3)))]]) <|
  .ret) (.skip)) <|
  aj [aa 92 0,ao 93 3 3,aF 94 2 93,b6 95 185 [(.tmp 92),(.tmp 94),(.val (.val (.bool false)))],ao 96 2 4,(none,.op (.store 1 (.tmp 96) (.tmp 95)))]) (.skip)) <|
  aj [aa 97 0,aa 98 0,bh 99 98,ao 100 0 99,ao 101 2 100,an 102 101,aF 103 3 4,((some 104),.op (.aT 1 3 [(.val (.int .i64 0)),(.emp 1),(.val (.int .i64 0))] [(0,(.tmp 103))])),((some 105),.op (.app 3 40 (.tmp 102) (.tmp 104))),bh 106 97,ao 107 0 106,ao 108 2 107,(none,.op (.store 1 (.tmp 108) (.tmp 105)))],
  [],109⟩
theorem pc:aO Tryz.prog 124 [3]=some jz:=by kernel_rfl
def mr:DF:=⟨.seq (aj [aM 2 false]) <|
  .seq (.region [] [⟨none,[aa 3 0,aJ 4 142 [3],aa 5 4]⟩,⟨(some (5,false)),[aa 6 0,aJ 7 191 [6]]⟩,⟨none,[aS 8 5 7,aa 2 8]⟩]) <|
  .ret,
  [.tmp 2],9⟩
theorem sH:aO Tryz.prog 139 []=some mr:=by kernel_rfl
def vX:DC :=
  .seq (.seq (aj [aa 18 3,aa 19 0,((some 20),.op (.fY (.tmp 19))),aC 21 .lss 18 20]) <|
  .cond (.tmp 21) (.skip) (.exit 0)) <|
  .seq (.block 1 (.seq (aj [aa 24 0,aa 25 3,((some 26),.op (.cM (.tmp 24) (.tmp 25))),aJ 27 193 [26],bC 28 27]) <|
  .cond (.tmp 28) (.seq (aj [aM 2 false]) <|
  .ret) (.skip))) <|
  aj [aa 22 3,au 23 .add 22 1,aa 3 23]
def ow:DF:=⟨.seq (aj [aM 2 false]) <|
  .seq (.seq (.region [] [⟨none,[aa 4 0,((some 5),.op (.fY (.tmp 4))),au 6 .eql 5 0,aa 7 6]⟩,⟨(some (7,false)),[aa 8 0,((some 9),.op (.fY (.tmp 8))),au 10 .gtr 9 20]⟩,⟨none,[aS 11 7 10,aa 12 11]⟩,⟨(some (12,false)),[aa 13 0,((some 14),.op (.cM (.tmp 13) (.val (.val (.int .i64 0))))),aJ 15 192 [14],bC 16 15]⟩,⟨none,[aS 17 12 16]⟩]) <|
  .cond (.tmp 17) (.seq (aj [aM 2 false]) <|
  .ret) (.skip)) <|
  .seq (.seq (aj [az 3 0]) <|
  .block 0 (.loop vX)) <|
  .seq (aj [aM 2 true]) <|
  .ret,
  [.tmp 2],29⟩
theorem tU:aO Tryz.prog 142 []=some ow:=by kernel_rfl
def jy:DF:=⟨.seq (aj [bz 4 1]) <|
  .seq (aj [aa 6 0,bh 7 6,ao 8 10 7,an 9 8,au 10 .eql 9 0]) <|
  .cond (.tmp 10) (aj [aa 11 0,aa 12 0,ao 13 1 4,an 14 13,aa 15 2,bh 16 11,ao 17 9 16,(none,.op (.store 1 (.tmp 17) (.tmp 14))),bh 18 12,ao 19 10 18,(none,.op (.store 1 (.tmp 19) (.tmp 15)))]) (.skip),
  [],20⟩
theorem oW:aO Tryz.prog 126 [4]=some jy:=by kernel_rfl
def iD:DF:=⟨.seq (aj [bz 4 1,az 6 0]) <|
  .seq (aj [aa 8 0,bh 9 8,ao 10 0 9,aF 11 4 10,ao 12 0 4,an 13 12,aJ 14 125 [11,13],aa 7 14]) <|
  .seq (.block 0 (.seq (.region [] [⟨none,[aa 19 7,au 20 .geq 19 0,aa 21 20]⟩,⟨(some (21,true)),[aa 22 2]⟩,⟨none,[bq 23 21 22,aa 18 23]⟩]) <|
  .cond (.tmp 18) (.seq (aj [aa 24 7,((some 25),.op (.arith .sub (.val (.val (.int .i64 (-1)))) (.tmp 24))),aa 6 25]) <|
  .ret) (.seq (aj [aa 27 7,au 28 .geq 27 0,aa 26 28]) <|
  .cond (.tmp 26) (aj [aa 29 0,aF 30 2 4,b6 31 126 [(.tmp 29),(.tmp 30),(.val (.val (.int .i64 6)))]]) (.seq (.region [] [⟨none,[aa 33 0,bh 34 33,ao 35 0 34,aF 36 4 35,ao 37 0 4,an 38 37,aJ 39 140 [36,38],au 40 .geq 39 0,aa 41 40]⟩,⟨(some (41,false)),[ao 42 0 4,an 43 42,aJ 44 191 [43]]⟩,⟨none,[aS 45 41 44,aa 46 45]⟩,⟨(some (46,false)),[ao 47 0 4,an 48 47,((some 49),.op (.iq .eql (.tmp 48) (.val (.val (.string ⟨#[101,114,114,111,114]⟩)))))]⟩,⟨none,[aS 50 46 49,aa 32 50]⟩]) <|
  .cond (.tmp 32) (.seq (aj [aa 51 0,aF 52 2 4,aJ 53 226 [51,52],aa 6 53]) <|
  .ret) (aj [aa 15 0,aF 16 2 4,b6 17 126 [(.tmp 15),(.tmp 16),(.val (.val (.int .i64 6)))]]))))) <|
  .seq (aj [az 6 0]) <|
  .ret,
  [.tmp 6],54⟩
theorem np:aO Tryz.prog 185 [4]=some iD:=by kernel_rfl
def xf:DC :=
  .seq (.seq (aj [aa 6 5,ao 7 1 2,an 8 7,aA 9 8,aC 10 .lss 6 9]) <|
  .cond (.tmp 10) (.skip) (.exit 0)) <|
  .seq (.block 1 (.seq (aj [ao 13 1 2,an 14 13,aa 15 5,aD 16 1 14 15,an 17 16,aa 18 1,((some 19),.op (.iq .eql (.tmp 17) (.tmp 18)))]) <|
  .cond (.tmp 19) (.seq (aj [aa 20 5,aa 4 20]) <|
  .ret) (.skip))) <|
  aj [aa 11 5,au 12 .add 11 1,aa 5 12]
def pI:DF:=⟨.seq (aj [bz 2 0,az 4 0]) <|
  .seq (.seq (aj [az 5 0]) <|
  .block 0 (.loop xf)) <|
  .seq (aj [az 4 (-1)]) <|
  .ret,
  [.tmp 4],21⟩
theorem vy:aO Tryz.prog 125 [2]=some pI:=by kernel_rfl
def vq:DC :=
  .seq (.seq (aj [aa 6 5,ao 7 0 2,an 8 7,aA 9 8,aC 10 .lss 6 9]) <|
  .cond (.tmp 10) (.skip) (.exit 0)) <|
  .seq (.block 1 (.seq (aj [ao 13 0 2,an 14 13,aa 15 5,aD 16 3 14 15,ao 17 0 16,an 18 17,aa 19 1,((some 20),.op (.iq .eql (.tmp 18) (.tmp 19)))]) <|
  .cond (.tmp 20) (.seq (aj [aa 21 5,aa 4 21]) <|
  .ret) (.skip))) <|
  aj [aa 11 5,au 12 .add 11 1,aa 5 12]
def od:DF:=⟨.seq (aj [bz 2 0,az 4 0]) <|
  .seq (.seq (aj [az 5 0]) <|
  .block 0 (.loop vq)) <|
  .seq (aj [az 4 (-1)]) <|
  .ret,
  [.tmp 4],22⟩
theorem tz:aO Tryz.prog 140 [2]=some od:=by kernel_rfl
def gO:DF:=⟨.seq (aj [bz 3 1,az 4 0]) <|
  .seq (aj [aa 6 0,bh 7 6,ao 8 0 7,aF 9 4 8,ao 10 0 3,an 11 10,aJ 12 140 [9,11],aa 5 12]) <|
  .seq (.seq (aj [aa 13 5,au 14 .geq 13 0]) <|
  .cond (.tmp 14) (.seq (aj [aa 15 5,aa 4 15]) <|
  .ret) (.skip)) <|
  .seq (.seq (aj [aa 16 0,bh 17 16,ao 18 0 17,ao 19 0 18,an 20 19,aA 21 20,au 22 .eql 21 24]) <|
  .cond (.tmp 22) (.seq (aj [aa 23 0,aF 24 2 3,b6 25 126 [(.tmp 23),(.tmp 24),(.val (.val (.int .i64 5)))]]) <|
  .seq (aj [az 4 0]) <|
  .ret) (.skip)) <|
  .seq (.region [] [⟨none,[aa 26 0,aa 27 0,bh 28 27,ao 29 0 28,ao 30 0 29,an 31 30,ao 32 0 3,an 33 32,((some 34),.op (.build [(.val (.string ⟨#[]⟩)),(.val (.int .i64 0)),(.val (.int .i64 0))] [(0,1,(.tmp 33))])),((some 35),.op (.aT 1 3 [(.val (.string ⟨#[]⟩)),(.val (.int .i64 0)),(.val (.int .i64 0))] [(0,(.tmp 34))])),((some 36),.op (.app 3 32 (.tmp 31) (.tmp 35))),bh 37 26,ao 38 0 37,ao 39 0 38,(none,.op (.store 1 (.tmp 39) (.tmp 36)))]⟩]) <|
  .seq (aj [aa 40 0,bh 41 40,ao 42 0 41,ao 43 0 42,an 44 43,aA 45 44,au 46 .sub 45 1,aa 4 46]) <|
  .ret,
  [.tmp 4],47⟩
theorem lk:aO Tryz.prog 226 [3]=some gO:=by kernel_rfl
def pb:DC :=
  .seq (.seq (.region [] [⟨none,[aa 60 7,ao 61 1 5,an 62 61,aA 63 62,aC 64 .lss 60 63,aa 65 64]⟩,⟨(some (65,true)),[aa 66 0,bh 67 66,ao 68 10 67,an 69 68,au 70 .eql 69 0]⟩,⟨none,[bq 71 65 70]⟩]) <|
  .cond (.tmp 71) (.skip) (.exit 2)) <|
  .seq (.block 3 (aj [aa 74 0,ao 75 0 5,an 76 75,ao 77 1 5,an 78 77,aa 79 7,aD 80 2 78 79,aF 81 2 80,aJ 82 184 [74,76,81]])) <|
  aj [aa 72 7,au 73 .add 72 1,aa 7 73]
def oY:DC :=
  .seq (.seq (.region [] [⟨none,[aa 8 4,aa 9 1,aA 10 9,aC 11 .lss 8 10,aa 12 11]⟩,⟨(some (12,true)),[aa 13 0,bh 14 13,ao 15 10 14,an 16 15,au 17 .eql 16 0]⟩,⟨none,[bq 18 12 17]⟩]) <|
  .cond (.tmp 18) (.skip) (.exit 0)) <|
  .seq (.block 1 (.seq (aj [aa 21 1,aa 22 4,aD 23 2 21 22,aF 24 2 23,((some 5),.op (.alloc [(.val (.int .i64 0)),(.emp 1)])),(none,.op (.store 2 (.tmp 5) (.tmp 24)))]) <|
  .seq (.seq (.region [] [⟨none,[ao 25 0 5,an 26 25,au 27 .lss 26 3,aa 28 27]⟩,⟨(some (28,false)),[ao 29 0 5,an 30 29,au 31 .gtr 30 7]⟩,⟨none,[aS 32 28 31]⟩]) <|
  .cond (.tmp 32) (.seq (.region [] [⟨none,[((some 33),.op (.build [(.val (.string ⟨#[]⟩)),(.val (.complex .f64 0 0))] [])),((some 6),.op (.alloc [(.val (.string ⟨#[]⟩)),(.val (.complex .f64 0 0))])),(none,.op (.store 2 (.tmp 6) (.tmp 33)))]⟩]) <|
  .seq (.seq (aj [ao 34 1 5,an 35 34,aA 36 35,au 37 .gtr 36 0]) <|
  .cond (.tmp 37) (aj [ao 38 1 5,an 39 38,((some 40),.op (.idx 2 (.tmp 39) (.val (.val (.int .i64 0))))),aF 41 2 40,(none,.op (.store 2 (.tmp 6) (.tmp 41)))]) (.skip)) <|
  .seq (aj [aa 42 0,aF 43 2 6,b6 44 126 [(.tmp 42),(.tmp 43),(.val (.val (.int .i64 3)))]]) <|
  .ret) (.skip)) <|
  .seq (.seq (.region [] [⟨none,[ao 45 0 5,an 46 45,au 47 .neq 46 3,aa 48 47]⟩,⟨(some (48,true)),[ao 49 0 5,an 50 49,au 51 .neq 50 7]⟩,⟨none,[bq 52 48 51]⟩]) <|
  .cond (.tmp 52) (aj [aa 53 0,bh 54 53,ao 55 8 54,an 56 55,au 57 .add 56 1,bh 58 53,ao 59 8 58,(none,.op (.store 1 (.tmp 59) (.tmp 57)))]) (.skip)) <|
  .seq (aj [az 7 0]) <|
  .block 2 (.loop pb))) <|
  aj [aa 19 4,au 20 .add 19 1,aa 4 20]
def iG:DF:=⟨.seq (aj [az 4 0]) <|
  .block 0 (.loop oY),
  [],83⟩
theorem oo:aO Tryz.prog 122 []=some iG:=by kernel_rfl
def gT:DF:=⟨.seq (aj [bz 5 2]) <|
  .block 0 (.seq (.region [] [⟨none,[ao 63 0 5,an 64 63,aJ 65 139 [64],bC 66 65,aa 67 66]⟩,⟨(some (67,false)),[aa 68 1,au 69 .eql 68 7,aa 70 69]⟩,⟨(some (70,true)),[ao 71 0 5,an 72 71,aJ 73 142 [72],bC 74 73]⟩,⟨(some (67,false)),[bq 75 70 74]⟩,⟨none,[aS 76 67 75,aa 62 76]⟩]) <|
  .cond (.tmp 62) (aj [aa 77 0,aF 78 2 5,b6 79 126 [(.tmp 77),(.tmp 78),(.val (.val (.int .i64 3)))]]) (.seq (aj [aa 81 1,au 82 .eql 81 7,aa 80 82]) <|
  .cond (.tmp 80) (.seq (.seq (aj [aa 83 0,bh 84 83,ao 85 7 84,an 86 85]) <|
  .cond (.tmp 86) (aj [aa 87 0,aF 88 2 5,b6 89 126 [(.tmp 87),(.tmp 88),(.val (.val (.int .i64 7)))]]) (.skip)) <|
  aj [aa 90 0,aa 91 0,aF 92 2 5,bh 93 90,ao 94 5 93,(none,.op (.store 2 (.tmp 94) (.tmp 92))),bh 95 91,ao 96 7 95,(none,.op (.store 1 (.tmp 96) (.val (.val (.bool true)))))]) (.seq (aj [aa 98 1,au 99 .eql 98 3,aa 97 99]) <|
  .cond (.tmp 97) (.seq (.seq (aj [aa 100 0,bh 101 100,ao 102 4 101,an 103 102,ao 104 0 5,an 105 104,aJ 106 225 [103,105]]) <|
  .cond (.tmp 106) (aj [aa 107 0,aF 108 2 5,b6 109 126 [(.tmp 107),(.tmp 108),(.val (.val (.int .i64 7)))]]) (.skip)) <|
  .seq (.region [] [⟨none,[aa 110 0,aa 111 0,bh 112 111,ao 113 4 112,an 114 113,ao 115 0 5,an 116 115,((some 117),.op (.aT 1 1 [(.val (.string ⟨#[]⟩))] [(0,(.tmp 116))])),((some 118),.op (.app 1 16 (.tmp 114) (.tmp 117))),bh 119 110,ao 120 4 119,(none,.op (.store 1 (.tmp 120) (.tmp 118)))]⟩]) <|
  aj [aa 121 0,aF 122 2 5,aJ 123 226 [121,122]]) (.seq (aj [aa 7 0,bh 8 7,ao 9 0 8,aF 10 4 9,ao 11 0 5,an 12 11,aJ 13 140 [10,12],aa 6 13]) <|
  .seq (.seq (.region [] [⟨none,[aa 14 6,au 15 .geq 14 0,aa 16 15]⟩,⟨(some (16,true)),[aa 17 0,bh 18 17,ao 19 0 18,ao 20 0 19,an 21 20,aa 22 6,aD 23 3 21 22,ao 24 1 23,an 25 24,au 26 .gtr 25 0]⟩,⟨none,[bq 27 16 26]⟩]) <|
  .cond (.tmp 27) (.seq (aj [aa 28 0,aF 29 2 5,b6 30 126 [(.tmp 28),(.tmp 29),(.val (.val (.int .i64 7)))]]) <|
  .ret) (.skip)) <|
  .seq (aj [aa 31 0,aF 32 2 5,aJ 33 226 [31,32],aa 6 33]) <|
  .seq (aj [aa 34 0,bh 35 34,ao 36 10 35,an 37 36,au 38 .eql 37 0]) <|
  .cond (.tmp 38) (aj [aa 39 0,bh 40 39,ao 41 0 40,ao 42 0 41,an 43 42,aa 44 6,aa 45 0,bh 46 45,ao 47 0 46,ao 48 0 47,an 49 48,aa 50 6,aa 51 0,bh 52 51,ao 53 8 52,an 54 53,aa 55 1,au 56 .sub 55 4,au 57 .add 56 1,aD 58 3 43 44,ao 59 1 58,(none,.op (.store 1 (.tmp 59) (.tmp 54))),aD 60 3 49 50,ao 61 2 60,(none,.op (.store 1 (.tmp 61) (.tmp 57)))]) (.skip))))),
  [],124⟩
theorem me:aO Tryz.prog 184 [5]=some gT:=by kernel_rfl
def xe:DC :=
  .seq (.seq (aj [aa 6 5,aa 7 0,aA 8 7,aC 9 .lss 6 8]) <|
  .cond (.tmp 9) (.skip) (.exit 0)) <|
  .seq (.block 1 (.seq (aj [aa 12 0,aa 13 5,aD 14 1 12 13,an 15 14,aa 16 1,((some 17),.op (.iq .eql (.tmp 15) (.tmp 16)))]) <|
  .cond (.tmp 17) (.seq (aj [aM 4 true]) <|
  .ret) (.skip))) <|
  aj [aa 10 5,au 11 .add 10 1,aa 5 11]
def pK:DF:=⟨.seq (aj [aM 4 false]) <|
  .seq (.seq (aj [az 5 0]) <|
  .block 0 (.loop xe)) <|
  .seq (aj [aM 4 false]) <|
  .ret,
  [.tmp 4],18⟩
theorem vO:aO Tryz.prog 225 []=some pK:=by kernel_rfl
def pg:DC :=
  .seq (.seq (.region [] [⟨none,[aa 6 4,aa 7 1,aA 8 7,aC 9 .lss 6 8,aa 10 9]⟩,⟨(some (10,true)),[aa 11 0,bh 12 11,ao 13 10 12,an 14 13,au 15 .eql 14 0]⟩,⟨none,[bq 16 10 15]⟩]) <|
  .cond (.tmp 16) (.skip) (.exit 0)) <|
  .seq (.block 1 (.seq (.region [] [⟨none,[aa 19 1,aa 20 4,aD 21 5 19 20,ao 22 0 21,aF 23 2 22,((some 5),.op (.alloc [(.val (.string ⟨#[]⟩)),(.val (.complex .f64 0 0))])),(none,.op (.store 2 (.tmp 5) (.tmp 23)))]⟩]) <|
  .block 2 (.seq (aj [ao 38 0 5,an 39 38,aJ 40 142 [39],bC 41 40,aa 37 41]) <|
  .cond (.tmp 37) (aj [aa 42 0,aF 43 2 5,b6 44 126 [(.tmp 42),(.tmp 43),(.val (.val (.int .i64 3)))]]) (.seq (aj [aa 46 0,bh 47 46,ao 48 0 47,aF 49 4 48,ao 50 0 5,an 51 50,aJ 52 140 [49,51],au 53 .geq 52 0,aa 45 53]) <|
  .cond (.tmp 45) (aj [aa 54 0,aF 55 2 5,b6 56 126 [(.tmp 54),(.tmp 55),(.val (.val (.int .i64 7)))]]) (.seq (aj [aa 58 0,bh 59 58,ao 60 0 59,aF 61 4 60,ao 62 0 5,an 63 62,aJ 64 125 [61,63],au 65 .geq 64 0,aa 57 65]) <|
  .cond (.tmp 57) (.skip) (.seq (aj [aa 67 0,bh 68 67,ao 69 0 68,ao 70 1 69,an 71 70,aA 72 71,au 73 .eql 72 16,aa 66 73]) <|
  .cond (.tmp 66) (aj [aa 74 0,aF 75 2 5,b6 76 126 [(.tmp 74),(.tmp 75),(.val (.val (.int .i64 5)))]]) (.region [] [⟨none,[aa 24 0,aa 25 0,bh 26 25,ao 27 0 26,ao 28 1 27,an 29 28,ao 30 0 5,an 31 30,((some 32),.op (.aT 1 1 [(.val (.string ⟨#[]⟩))] [(0,(.tmp 31))])),((some 33),.op (.app 1 16 (.tmp 29) (.tmp 32))),bh 34 24,ao 35 0 34,ao 36 1 35,(none,.op (.store 1 (.tmp 36) (.tmp 33)))]⟩]))))))) <|
  aj [aa 17 4,au 18 .add 17 1,aa 4 18]
def iL:DF:=⟨.seq (aj [az 4 0]) <|
  .block 0 (.loop pg),
  [],77⟩
theorem ot:aO Tryz.prog 123 []=some iL:=by kernel_rfl
def Cs:List (FuncId × DF):=[(41,oD),(70,mQ),(120,lh),(176,oJ),(215,pL),(216,oA),(217,nT),(218,ln),(234,lU),(177,qT),(219,qD),(178,py),(193,mN),(192,mT),(191,kR),(220,kq),(221,kp),(222,nP),(121,rf),(182,ir),(181,gY),(223,iw),(224,jv),(180,ij),(183,iv),(179,gX),(71,mC),(124,jz),(139,mr),(142,ow),(126,jy),(185,iD),(125,pI),(140,od),(226,gO),(122,iG),(184,gT),(225,pK),(123,iL)]
theorem Jt:vw Tryz.prog Cs:=by
  intro p hp
  simp only[Cs,List.mem_cons,List.not_mem_nil,or_false] at hp
  rcases hp with rfl | rfl | rfl | rfl | rfl | rfl | rfl | rfl | rfl | rfl | rfl | rfl | rfl | rfl | rfl | rfl | rfl | rfl | rfl | rfl | rfl | rfl | rfl | rfl | rfl | rfl | rfl | rfl | rfl | rfl | rfl | rfl | rfl | rfl | rfl | rfl | rfl | rfl | rfl
  · exact ⟨_,tW⟩
  · exact ⟨_,sV⟩
  · exact ⟨_,rr⟩
  · exact ⟨_,vc⟩
  · exact ⟨_,vf⟩
  · exact ⟨_,um⟩
  · exact ⟨_,uf⟩
  · exact ⟨_,ry⟩
  · exact ⟨_,rD⟩
  · exact ⟨_,xq⟩
  · exact ⟨_,xc⟩
  · exact ⟨_,vz⟩
  · exact ⟨_,sA⟩
  · exact ⟨_,sY⟩
  · exact ⟨_,qR⟩
  · exact ⟨_,qI⟩
  · exact ⟨_,qy⟩
  · exact ⟨_,uK⟩
  · exact ⟨_,xp⟩
  · exact ⟨_,nq⟩
  · exact ⟨_,mf⟩
  · exact ⟨_,m5⟩
  · exact ⟨_,oZ⟩
  · exact ⟨_,m4⟩
  · exact ⟨_,nt⟩
  · exact ⟨_,mc⟩
  · exact ⟨_,sE⟩
  · exact ⟨_,pc⟩
  · exact ⟨_,sH⟩
  · exact ⟨_,tU⟩
  · exact ⟨_,oW⟩
  · exact ⟨_,np⟩
  · exact ⟨_,vy⟩
  · exact ⟨_,tz⟩
  · exact ⟨_,lk⟩
  · exact ⟨_,oo⟩
  · exact ⟨_,me⟩
  · exact ⟨_,vO⟩
  · exact ⟨_,ot⟩
def wz (l:List Int):V:=.aL (l.map fun x=>[gy x])
theorem KE (l:List Int):Tree (wz l):=dg _ _ fun x _ v hv=>by simp at hv; subst hv; exact .val _
def kS (g:ay):V:=.bf [.agg (ax g),.val (.complex .f64 0 0),gi 0]
theorem Ct {l:List Int} {g:ay} (h:qg Tryz.prog Cs (fun _ _ _=>none) 41 [wz l]=some (kS g)):bY Tryz.prog 41 [wz l] (kS g) :=
  je mixed Jt (NX _) (by intro v hv; simp at hv; subst hv; exact KE _) h
abbrev dt (κ:Type):=List (κ × V × Nat)
def eU {κ:Type} (key:κ→Value) (m:dt κ):List (V × V × Nat):=m.map fun x=>(.val (key x.1),x.2.1,x.2.2)
def getM {κ:Type} [BEq κ] (m:dt κ) (k:κ):Option V:=(m.find? fun x=>k == x.1).map (·.2.1)
def dd {κ:Type} [BEq κ] (k:κ) (v:V) (c:Nat):dt κ→dt κ
  | []=>[(k,v,c)]
  | x :: r=>if k == x.1 then (k,v,x.2.2) :: r else x :: dd k v c r
structure Eo {κ:Type} [BEq κ] (P:Program) (kt:TypeId) (key:κ→Value):Prop where
  ty:∃ d,P.underlying kt=some d∧(∀ a b,Instr.sameNow d (key a) (key b)=some (a == b))∧(∀ a e,bw P (Instr.checkKey e 10000 kt (key a))=some ())
  bits:∀ a b,(a == b)=true→Instr.sameBits 10000 (key b) (key a)=true
theorem tB {κ:Type} (key:κ→Value):∀ m:dt κ,gS (eU key m)=some (m.map fun x=>{ key:=key x.1,val:=.nilFunc,born:=x.2.2 })
  | []=>rfl
  | x :: r=>by
    have:=tB key r
    simp only[eU] at this
    simp[eU,gS,cr,this]
def jF {κ:Type} [BEq κ] (k:κ):dt κ→Option Nat
  | []=>none
  | x :: r=>if k == x.1 then some 0 else (jF k r).map (·+1)
theorem zG {κ:Type} [BEq κ] {key:κ→Value} {d:TypeDesc} (h:∀ a b,Instr.sameNow d (key a) (key b)=some (a == b)) (k:κ):∀ (m:dt κ) (i:Nat),
    Instr.findNow d (key k) (m.map fun x=>{ key:=key x.1,val:=.nilFunc,born:=x.2.2 }) i=some ((jF k m).map fun j=>(i+j,.nilFunc))
  | [],i=>rfl
  | x :: r,i=>by
    simp only[List.map_cons,Instr.findNow,h,jF]
    cases hk:k == x.1 with
    | true=>simp
    | false =>
      simp only[zG h k r (i+1),Bool.false_eq_true,if_false,Option.map_map]
      congr 2
      funext j
      simp only[Function.comp]
      congr 1
      omega
theorem Dq {κ:Type} [BEq κ] {P:Program} {kt:TypeId} {key:κ→Value} (h:Eo P kt key) (k:κ) (e:Bool) (m:dt κ):l7 P kt (.val (key k)) e (eU key m)=some (jF k m):=by
  obtain ⟨d,hd,hn,hc⟩:=h.ty
  have hu:bw P (underlying kt)=some d:=dx hd
  simp only[l7,cr,tB,bm,hc,Option.bind_some]
  have:bw P (Instr.findKey kt (key k) (m.map fun x=>{ key:=key x.1,val:=.nilFunc,born:=x.2.2 }))=some ((jF k m).map fun j=>(0+j,.nilFunc)):=by
    unfold Instr.findKey
    rw[bm,hu,Option.bind_some,zG hn]
    rfl
  rw[this]
  cases jF k m with
  | none=>rfl
  | some j=>simp
theorem Ja {P:Program} {kt:TypeId} {d:TypeDesc} (h:P.underlying kt=some d) (hd:match d with | .int _ | .string | .bool=>True | _=>False) (e:Bool) (n:Nat) (v:Value):bw P (Instr.checkKey e (n+1) kt v)=some ():=by
  unfold Instr.checkKey
  rw[bm,dx h,Option.bind_some]
  cases d <;> first | exact hd.elim | rfl
theorem Fu {P:Program} {kt:TypeId} (k:IntKind) (h:P.underlying kt=some (.int k)):Eo P kt (Value.int k) where
  ty:=⟨_,h,fun a b=>by simp[Instr.sameNow],fun a e=>Ja h trivial e 9999 _⟩
  bits:=fun a b hab=>by
    have:a=b:=by simpa using hab
    subst this
    simp[Instr.sameBits]
theorem zT {κ:Type} [BEq κ] {key:κ→Value} (k:κ):∀ m:dt κ,match jF k m with
    | some i=>∃ x,m[i]?=some x∧(k == x.1)=true∧getM m k=some x.2.1∧(eU key m)[i]?=some (.val (key x.1),x.2.1,x.2.2)∧∀ v c,(eU key m).set i (.val (key k),v,x.2.2)=eU key (dd k v c m)∧(dd k v c m).length=m.length
    | none=>getM m k=none∧∀ v c,eU key m ++ [(.val (key k),v,c)]=eU key (dd k v c m)∧(dd k v c m).length=m.length+1
  | []=>⟨rfl,fun v c=>⟨rfl,rfl⟩⟩
  | x :: r=>by
    have ih:=zT (key:=key) k r
    simp only[jF]
    cases hk:k == x.1 with
    | true=>exact ⟨x,rfl,hk,by simp[getM,hk],rfl,fun v c=>by simp[dd,hk,eU]⟩
    | false =>
      simp only[Bool.false_eq_true,if_false]
      cases hi:jF k r with
      | some i =>
        rw[hi] at ih
        obtain ⟨y,h1,h2,h3,h4,h5⟩:=ih
        refine ⟨y,by simpa using h1,h2,by simpa [getM,hk] using h3,by simpa [eU] using h4,fun v c=>?_⟩
        obtain ⟨g1,g2⟩:=h5 v c
        exact ⟨by simp only[eU] at g1 ⊢; simp[dd,hk,g1],by simp[dd,hk,g2]⟩
      | none =>
        rw[hi] at ih
        refine ⟨by simpa [getM,hk] using ih.1,fun v c=>?_⟩
        obtain ⟨g1,g2⟩:=ih.2 v c
        exact ⟨by simp only[eU] at g1 ⊢; simp[dd,hk,g1],by simp[dd,hk,g2]⟩
section
variable {P:Program} {T:Env} {H:View} {κ:Type} [BEq κ] {key:κ→Value} {kt et t ty:TypeId}
theorem P1 {K:V→View→Prop} {w:ct (T,H,K)} {x i:Operand} {z:V} {id c:Nat} {m:dt κ} {k:κ} (hm:fe P t=some (kt,et)) (hz:zeroV P et=some z) (hk:Eo P kt key)
    (hx:ev T x=.mp id) (hi:ev T i=.val (key k)) (hH:H id=.map (eU key m) c) (h:K ((getM m k).getD z) H):pS P (.lookup t x i false) ty T H K w:=by
  intro n _
  have hf:=Dq hk k (eU key m).isEmpty m
  have hg:=zT (key:=key) k m
  refine ⟨(getM m k).getD z,.none,[id],?_,h⟩
  simp only[sI,bK,oper,fb,hm,hz,hx,hi,hH,hf]
  cases hj:jF k m with
  | some j =>
    rw[hj] at hg
    obtain ⟨y,h1,h2,h3,h4,_⟩:=hg
    simp[h4,h3]
  | none =>
    rw[hj] at hg
    simp[hg.1]
theorem Mf (hk:Eo P kt key) (k k':κ) (h:(k == k')=true):sameKey (.val (key k')) (.val (key k))=true:=by
  simp only[sameKey,cr]; exact hk.bits _ _ h
theorem JY {K:V→View→Prop} {w:ct (T,H,K)} {x i y:Operand} {id c:Nat} {m:dt κ} {k:κ} {v:V} (hm:fe P t=some (kt,et)) (hk:Eo P kt key)
    (hx:ev T x=.mp id) (hi:ev T i=.val (key k)) (hy:ev T y=v) (hH:H id=.map (eU key m) c)
    (h:∀ c',K .any (H.set id (.map (eU key (dd k v c m)) c'))):pS P (.mapUpdate t x i y) ty T H K w:=by
  intro n _
  have hf:=Dq hk k false m
  have hg:=zT (key:=key) k m
  cases hj:jF k m with
  | some j =>
    rw[hj] at hg hf
    obtain ⟨z,h1,h2,h3,h4,h5⟩:=hg
    refine ⟨.any,.eW id (.map ((eU key m).set j (.val (key k),v,z.2.2)) c),[id],?_,?_⟩
    · simp only[sI,bK,oper,eJ,hm,hx,hi,hy,hH,hf,h4,Mf hk k z.1 h2,if_true]
    · rw[(h5 v c).1]; exact h c
  | none =>
    rw[hj] at hg hf
    refine ⟨.any,.eW id (.map (eU key m ++ [(.val (key k),v,c)]) (c+1)),[id],?_,?_⟩
    · simp only[sI,bK,oper,eJ,hm,hx,hi,hy,hH,hf]
    · rw[(hg.2 v c).1]; exact h (c+1)
omit [BEq κ] in
theorem PG {K:V→View→Prop} {w:ct (T,H,K)} {x:Operand} {id c:Nat} {m:dt κ} (hm:fe P t=some (kt,et)) (hx:ev T x=.mp id) (hH:H id=.map (eU key m) c) (h:K (ak m.length) H) :
    pS P (.call { callee:=.builtin .len,args:=#[x],argTypes:=#[t] }) ty T H K w:=by
  intro n _
  have hu:∃ a b,P.underlying t=some (.map a b):=by
    unfold fe at hm
    split at hm
    · rename_i a b h1; exact ⟨a,b,h1⟩
    · simp at hm
  obtain ⟨a,b,hu⟩:=hu
  refine ⟨ak m.length,.none,[id],?_,h⟩
  have hl:(eU key m).length=m.length:=by simp[eU]
  simp only[sI,bK,oper,List.size_toArray,List.length_cons,List.length_nil,s9,hu,hx,hH,hl]
  simp[hu,hx,hH,hl,s9]
end
theorem Ep {κ:Type} [BEq κ] [LawfulBEq κ] (k k':κ) (v:V) (c:Nat):∀ m:dt κ,getM (dd k v c m) k'=if k' == k then some v else getM m k'
  | []=>by
    by_cases h:k'=k
    · subst h; simp[dd,getM]
    · simp[dd,getM,h]
  | x :: r=>by
    have ih:=Ep k k' v c r
    simp only[dd]
    by_cases hk:k=x.1
    · by_cases h:k'=k
      · subst h; simp[hk,getM]
      · have:¬ k'=x.1:=fun e=>h (e.trans hk.symm)
        simp[hk,getM,this]
    · simp only[beq_iff_eq,hk,if_false]
      by_cases h:k'=x.1
      · have:¬ k'=k:=fun e=>hk (e.symm.trans h)
        simp[getM,h]
        subst h
        simp[this]
      · simp only[getM,List.find?_cons,beq_eq_false_iff_ne.2 h] at ih ⊢
        exact ih
def dB {κ β:Type} [BEq κ] (a:List (κ × β)) (k:κ):Option β:=(a.find? fun x=>k == x.1).map (·.2)
def jJ {κ β:Type} [BEq κ] (k:κ) (v:β):List (κ × β)→List (κ × β)
  | []=>[(k,v)]
  | x :: r=>if k == x.1 then (k,v) :: r else x :: jJ k v r
def nf {κ β:Type} (encV:β→V):List (κ × β)→dt κ→Prop
  | [],[]=>True
  | x :: a,y :: m=>y.1=x.1∧y.2.1=encV x.2∧nf encV a m
  | _,_=>False
theorem nf.get {κ β:Type} [BEq κ] {encV:β→V} (k:κ):∀ {a:List (κ × β)} {m:dt κ},nf encV a m→getM m k=(dB a k).map encV
  | [],[],_=>rfl
  | x :: a,y :: m,⟨h1,h2,h3⟩=>by
    have ih:=nf.get k h3
    simp only[getM,dB,List.find?_cons,h1] at ih ⊢
    cases k == x.1 with
    | true=>simp[h2]
    | false=>simpa using ih
theorem nf.put {κ β:Type} [BEq κ] {encV:β→V} (k:κ) (v:β) (c:Nat):∀ {a:List (κ × β)} {m:dt κ},nf encV a m→nf encV (jJ k v a) (dd k (encV v) c m)
  | [],[],_=>⟨rfl,rfl,trivial⟩
  | x :: a,y :: m,⟨h1,h2,h3⟩=>by
    have ih:=nf.put k v c h3
    simp only[jJ,dd,h1]
    cases k == x.1 with
    | true=>exact ⟨rfl,rfl,h3⟩
    | false=>exact ⟨h1,h2,ih⟩
theorem nf.len {κ β:Type} {encV:β→V} : ∀ {a:List (κ × β)} {m:dt κ},nf encV a m→m.length=a.length
  | [],[],_=>rfl
  | x :: a,y :: m,⟨_,_,h3⟩=>by simp[nf.len h3]
theorem Ek {κ β:Type} [BEq κ] [LawfulBEq κ] (k k':κ) (v:β):∀ a:List (κ × β),dB (jJ k v a) k'=if k' == k then some v else dB a k'
  | []=>by
    by_cases h:k'=k
    · subst h; simp[jJ,dB]
    · simp[jJ,dB,h]
  | x :: r=>by
    have ih:=Ek k k' v r
    simp only[jJ]
    by_cases hk:k=x.1
    · by_cases h:k'=k
      · subst h; simp[hk,dB]
      · have:¬ k'=x.1:=fun e=>h (e.trans hk.symm)
        simp[hk,dB,this]
    · simp only[beq_iff_eq,hk,if_false]
      by_cases h:k'=x.1
      · have:¬ k'=k:=fun e=>hk (e.symm.trans h)
        simp[dB,h]
        subst h
        simp[this]
      · simp only[dB,List.find?_cons,beq_eq_false_iff_ne.2 h] at ih ⊢
        exact ih
def Lh (n k:Nat) (J:Nat→Env→View→Prop) (T:Env) (H:View):Prop:=∃ i,i+k=n∧J i T H
theorem bp.up {P:Program} {T:Env} {H:View} {c:SC} {Q:Exit→Env→View→Prop} {v:ct (T,H,Q)} (n:Nat) (J:Nat→Env→View→Prop) (h0:J 0 T H)
    (hs:∀ i k T H,i+k=n→J i T H→wS P c T H fun e T' H'=>zH e (∃ k',k' < k∧Lh n k' J T' H') (Q e T' H')):bp P c T H Q v :=
  bp.intro (fun k T H=>Lh n k J T H) n ⟨0,by omega,h0⟩ fun k T H ⟨i,hk,hj⟩=>hs i k T H hk hj
theorem br {n i k:Nat} {J:Nat→Env→View→Prop} {T:Env} {H:View} (hk:i+k=n) (hlt:i < n) (hJ:J (i+1) T H):∃ k',k' < k∧Lh n k' J T H:=⟨k - 1,by omega,i+1,by omega,hJ⟩
end Gv
