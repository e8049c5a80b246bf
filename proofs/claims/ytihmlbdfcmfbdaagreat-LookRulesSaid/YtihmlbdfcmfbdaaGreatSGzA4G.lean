/-
  Part 7 of the proof: what the machine does and what the functions answer.
  Conditions: those that each lemma names.
-/
import Derived.Test.YtihmlbdfcmfbdaaGreatSGzA4F
set_option linter.unusedSimpArgs false
set_option linter.unusedVariables false
set_option maxRecDepth 100000
namespace Gv
open Go Go.Proofs
def kP:DF:=⟨.seq (ae [((some 2),.op (.alloc [(.emp 1),(.emp 1),(.emp 1),(.val (.int .i64 0))])),((some 3),.op (.aX (.val (.val (.complex .f64 0 0))))),aA 4 0]) <|
  .seq (ae [aa 9 0,aD 10 94 [9],aa 8 10,ct 11 0 8,ct 12 1 8,ct 13 2 8,((some 5),.op (.alloc [(.emp 1),(.emp 1)])),(none,.op (.store 2 (.tmp 5) (.tmp 11))),aa 6 12,aa 7 13]) <|
  .seq (.seq (ae [aa 14 7,av 15 .neq 14 0]) <|
  .cond (.tmp 15) (.seq (ae [((some 16),.op (.build [(.emp 1),(.emp 1),(.emp 1),(.val (.int .i64 0))] [])),aa 17 6,aa 18 7,(none,.op (.store 4 (.tmp 2) (.tmp 16))),aa 3 17,aa 4 18]) <|
  .ret) (.skip)) <|
  .seq (ae [aO 19 2 5,aD 20 95 [19],ct 21 0 20,ct 22 1 20,ct 23 2 20,(none,.op (.store 4 (.tmp 2) (.tmp 21))),aa 3 22,aa 4 23]) <|
  .ret,
  [.cell 2 (some 4),.tmp 3,.tmp 4],24⟩
theorem oQ:aE Tryz.prog 49 []=some kP:=by kernel_rfl
def jX:DF:=⟨.seq (ae [((some 2),.op (.alloc [(.emp 1),(.emp 1)])),((some 3),.op (.aX (.val (.val (.complex .f64 0 0))))),aA 4 0]) <|
  .seq (ae [aa 9 0,aD 10 134 [9],aa 8 10,ct 11 0 8,ct 12 1 8,ct 13 2 8,aa 5 11,aa 6 12,aa 7 13]) <|
  .seq (.seq (ae [aa 14 7,av 15 .neq 14 0]) <|
  .cond (.tmp 15) (.seq (ae [((some 16),.op (.build [(.emp 1),(.emp 1)] [])),aa 17 6,aa 18 7,(none,.op (.store 2 (.tmp 2) (.tmp 16))),aa 3 17,aa 4 18]) <|
  .ret) (.skip)) <|
  .seq (ae [aa 19 5,aa 20 6,aD 21 135 [19,20],ct 22 0 21,ct 23 1 21,ct 24 2 21,(none,.op (.store 2 (.tmp 2) (.tmp 22))),aa 3 23,aa 4 24]) <|
  .ret,
  [.cell 2 (some 2),.tmp 3,.tmp 4],25⟩
theorem oh:aE Tryz.prog 94 []=some jX:=by kernel_rfl
def oc:DC :=
  .seq (.seq (.region [] [⟨none,[aa 16 6,aa 17 0,aK 18 17,aM 19 .lss 16 18,aa 20 19]⟩,⟨(some (20,true)),[aa 21 7,av 22 .lss 21 2]⟩,⟨none,[bC 23 20 22]⟩]) <|
  .cond (.tmp 23) (.skip) (.exit 0)) <|
  .block 1 (.seq (ae [aa 25 0,aa 26 6,aD 27 177 [25,26],aa 24 27,ct 28 0 24,ct 29 1 24,aa 8 28,aa 9 29]) <|
  .seq (.seq (ae [aa 30 8,av 31 .lss 30 0]) <|
  .cond (.tmp 31) (.seq (ae [aa 32 0,aa 33 6,aD 34 178 [32,33],((some 2),.op (.aX (.val (.emp 1)))),aa 3 34,aA 4 4]) <|
  .ret) (.skip)) <|
  .seq (.seq (ae [aa 35 9]) <|
  .cond (.tmp 35) (.seq (ae [aa 36 8,aa 6 36]) <|
  .exit 1) (.skip)) <|
  .seq (.region [] [⟨none,[aa 38 0,aa 39 6,aD 40 179 [38,39],aa 37 40,ct 41 0 37,ct 42 1 37,ct 43 2 37,((some 10),.op (.alloc [(.val (.int .i64 0)),(.val (.string ⟨#[]⟩)),(.val (.complex .f64 0 0))])),(none,.op (.store 3 (.tmp 10) (.tmp 41))),aa 11 42,aa 12 43]⟩]) <|
  .seq (.seq (ae [aa 44 12,av 45 .neq 44 0]) <|
  .cond (.tmp 45) (.seq (ae [al 46 2 10,ak 47 46,aa 48 12,((some 2),.op (.aX (.val (.emp 1)))),aa 3 47,aa 4 48]) <|
  .ret) (.skip)) <|
  .seq (.seq (ae [al 49 0 10,ak 50 49,av 51 .eql 50 9]) <|
  .cond (.tmp 51) (ae [aa 52 7,av 53 .add 52 1,aa 7 53]) (.skip)) <|
  .region [] [⟨none,[aa 54 5,aO 55 3 10,((some 56),.op (.bg 1 3 [(.val (.int .i64 0)),(.val (.string ⟨#[]⟩)),(.val (.complex .f64 0 0))] [(0,(.tmp 55))])),((some 57),.op (.app 3 40 (.tmp 54) (.tmp 56))),aa 58 11,aa 5 57,aa 6 58]⟩])
def jo:DF:=⟨.seq (ae [((some 2),.op (.aX (.val (.emp 1)))),((some 3),.op (.aX (.val (.val (.complex .f64 0 0))))),aA 4 0]) <|
  .seq (.seq (ae [aa 13 0,aK 14 13,av 15 .gtr 14 4000]) <|
  .cond (.tmp 15) (.seq (ae [((some 2),.op (.aX (.val (.emp 1)))),((some 3),.op (.aX (.val (.val (.complex .f64 0 0))))),aA 4 5]) <|
  .ret) (.skip)) <|
  .seq (ae [((some 5),.op (.aX (.val (.emp 1))))]) <|
  .seq (ae [aA 6 0,aA 7 0]) <|
  .seq (.block 0 (.loop oc)) <|
  .seq (ae [aa 59 5,aa 60 0,aa 61 0,aK 62 61,aD 63 178 [60,62],aa 2 59,aa 3 63,aA 4 0]) <|
  .ret,
  [.tmp 2,.tmp 3,.tmp 4],64⟩
theorem mW:aE Tryz.prog 134 []=some jo:=by kernel_rfl
def k9:DF:=⟨.seq (ae [aA 4 0,bd 5 false]) <|
  .seq (.block 0 (.seq (.region [] [⟨none,[aa 7 0,aa 8 1,aL 9 1 7 8,ak 10 9,((some 11),.op (.arith .eql (.tmp 10) (.val (.val (.int .u8 32))))),aa 12 11]⟩,⟨(some (12,false)),[aa 13 0,aa 14 1,aL 15 1 13 14,ak 16 15,((some 17),.op (.arith .eql (.tmp 16) (.val (.val (.int .u8 9)))))]⟩,⟨none,[bU 18 12 17,aa 19 18]⟩,⟨(some (19,false)),[aa 20 0,aa 21 1,aL 22 1 20 21,ak 23 22,((some 24),.op (.arith .eql (.tmp 23) (.val (.val (.int .u8 10)))))]⟩,⟨none,[bU 25 19 24,aa 26 25]⟩,⟨(some (26,false)),[aa 27 0,aa 28 1,aL 29 1 27 28,ak 30 29,((some 31),.op (.arith .eql (.tmp 30) (.val (.val (.int .u8 13)))))]⟩,⟨none,[bU 32 26 31,aa 6 32]⟩]) <|
  .cond (.tmp 6) (.seq (ae [aa 33 1,av 34 .add 33 1,aa 4 34,bd 5 true]) <|
  .ret) (.seq (.region [] [⟨none,[aa 36 0,aa 37 1,ca 38 212 [(.tmp 36),(.tmp 37),(.val (.val (.string ⟨#[47,42]⟩)))],aa 35 38]⟩]) <|
  .cond (.tmp 35) (.seq (.region [] [⟨none,[aa 39 0,aa 40 1,av 41 .add 40 2,ca 42 213 [(.tmp 39),(.tmp 41),(.val (.val (.string ⟨#[42,47]⟩)))],aa 4 42,bd 5 true]⟩]) <|
  .ret) (.seq (.region [] [⟨none,[aa 44 0,aa 45 1,ca 46 212 [(.tmp 44),(.tmp 45),(.val (.val (.string ⟨#[47,47]⟩)))],aa 43 46]⟩]) <|
  .cond (.tmp 43) (.seq (ae [aa 47 0,aa 48 1,aD 49 214 [47,48],aa 4 49,bd 5 true]) <|
  .ret) (.seq (.region [] [⟨none,[aa 51 0,aa 52 1,ca 53 212 [(.tmp 51),(.tmp 52),(.val (.val (.string ⟨#[37,123]⟩)))],aa 50 53]⟩]) <|
  .cond (.tmp 50) (.seq (.region [] [⟨none,[aa 54 0,aa 55 1,av 56 .add 55 2,ca 57 213 [(.tmp 54),(.tmp 56),(.val (.val (.string ⟨#[37,125]⟩)))],aa 4 57,bd 5 true]⟩]) <|
  .ret) (.seq (ae [aa 59 0,aa 60 1,aL 61 1 59 60,ak 62 61,((some 63),.op (.arith .eql (.tmp 62) (.val (.val (.int .u8 60))))),aa 58 63]) <|
  .cond (.tmp 58) (.seq (.region [] [⟨none,[aa 64 0,aa 65 0,aa 66 1,aD 67 214 [65,66],((some 68),.op (.slice 1 (.tmp 64) none (some (.tmp 67)))),aa 69 1,av 70 .add 69 1,ca 71 213 [(.tmp 68),(.tmp 70),(.val (.val (.string ⟨#[62]⟩)))],aa 4 71,bd 5 true]⟩]) <|
  .ret) (.seq (ae [aa 73 0,aa 74 1,aL 75 1 73 74,ak 76 75,((some 77),.op (.arith .eql (.tmp 76) (.val (.val (.int .u8 123))))),aa 72 77]) <|
  .cond (.tmp 72) (.seq (ae [aa 78 0,aa 79 1,aD 80 215 [78,79],aa 4 80,bd 5 true]) <|
  .ret) (.skip)))))))) <|
  .seq (ae [aa 81 1,aa 4 81,bd 5 false]) <|
  .ret,
  [.tmp 4,.tmp 5],82⟩
theorem oL:aE Tryz.prog 177 []=some k9:=by kernel_rfl
def lE:DF:=⟨.seq (ae [bd 6 false]) <|
  .seq (.region [] [⟨none,[aa 7 1,aa 8 2,((some 9),.op (.ib (.tmp 8))),aM 10 .add 7 9,aa 11 0,aK 12 11,aM 13 .leq 10 12,aa 14 13]⟩,⟨(some (14,true)),[aa 15 0,aa 16 1,aa 17 1,aa 18 2,((some 19),.op (.ib (.tmp 18))),aM 20 .add 17 19,((some 21),.op (.slice 1 (.tmp 15) (some (.tmp 16)) (some (.tmp 20)))),((some 22),.op (.old (.convert 91 9 (.tmp 21)) 9)),aa 23 2,((some 24),.op (.hE .eql (.tmp 22) (.tmp 23)))]⟩,⟨none,[bC 25 14 24,aa 6 25]⟩]) <|
  .ret,
  [.tmp 6],26⟩
theorem qv:aE Tryz.prog 212 []=some lE:=by kernel_rfl
def qp:DC :=
  .seq (.seq (ae [aa 7 1,aa 8 0,aK 9 8,aM 10 .lss 7 9]) <|
  .cond (.tmp 10) (.skip) (.exit 0)) <|
  .block 1 (.seq (.seq (ae [aa 11 0,aa 12 1,aa 13 2,aD 14 212 [11,12,13]]) <|
  .cond (.tmp 14) (.seq (ae [aa 15 1,aa 16 2,((some 17),.op (.ib (.tmp 16))),aM 18 .add 15 17,aa 6 18]) <|
  .ret) (.skip)) <|
  ae [aa 19 1,av 20 .add 19 1,aa 1 20])
def kE:DF:=⟨.seq (ae [aA 6 0]) <|
  .seq (.block 0 (.loop qp)) <|
  .seq (ae [aA 6 (-1)]) <|
  .ret,
  [.tmp 6],21⟩
theorem oy:aE Tryz.prog 213 []=some kE:=by kernel_rfl
def pN:DC :=
  .seq (.seq (.region [] [⟨none,[aa 5 1,aa 6 0,aK 7 6,aM 8 .lss 5 7,aa 9 8]⟩,⟨(some (9,true)),[aa 10 0,aa 11 1,aL 12 1 10 11,ak 13 12,((some 14),.op (.arith .neq (.tmp 13) (.val (.val (.int .u8 10)))))]⟩,⟨none,[bC 15 9 14]⟩]) <|
  .cond (.tmp 15) (.skip) (.exit 0)) <|
  .block 1 (ae [aa 16 1,av 17 .add 16 1,aa 1 17])
def kJ:DF:=⟨.seq (ae [aA 4 0]) <|
  .seq (.block 0 (.loop pN)) <|
  .seq (ae [aa 18 1,aa 4 18]) <|
  .ret,
  [.tmp 4],19⟩
theorem pt:aE Tryz.prog 214 []=some kJ:=by kernel_rfl
def nQ:DC :=
  .seq (.seq (.region [] [⟨none,[aa 6 1,av 7 .geq 6 0,aa 8 7]⟩,⟨(some (8,true)),[aa 9 1,aa 10 0,aK 11 10,aM 12 .lss 9 11]⟩,⟨none,[bC 13 8 12]⟩]) <|
  .cond (.tmp 13) (.skip) (.exit 0)) <|
  .block 1 (.seq (.seq (ae [aa 14 0,aa 15 1,aL 16 1 14 15,ak 17 16]) <|
  .block 2 (.seq (ae [((some 21),.op (.arith .eql (.tmp 17) (.val (.val (.int .u8 123))))),aa 20 21]) <|
  .cond (.tmp 20) (.seq (ae [aa 22 5,av 23 .add 22 1,aa 5 23]) <|
  ae [aa 24 1,av 25 .add 24 1,aa 1 25]) (.seq (ae [((some 27),.op (.arith .eql (.tmp 17) (.val (.val (.int .u8 125))))),aa 26 27]) <|
  .cond (.tmp 26) (.seq (ae [aa 28 5,av 29 .sub 28 1,aa 5 29]) <|
  ae [aa 30 1,av 31 .add 30 1,aa 1 31]) (.seq (.seq (ae [((some 33),.op (.arith .eql (.tmp 17) (.val (.val (.int .u8 39))))),aa 32 33]) <|
  .cond (.tmp 32) (.skip) (ae [((some 34),.op (.arith .eql (.tmp 17) (.val (.val (.int .u8 34))))),aa 32 34])) <|
  .cond (.tmp 32) (ae [aa 35 0,aa 36 1,aD 37 232 [35,36],aa 1 37]) (ae [aa 18 1,av 19 .add 18 1,aa 1 19]))))) <|
  .seq (.region [] [⟨none,[aa 38 5,av 39 .eql 38 0,aa 40 39]⟩,⟨(some (40,true)),[aa 41 1,av 42 .geq 41 0]⟩,⟨none,[bC 43 40 42]⟩]) <|
  .cond (.tmp 43) (.seq (ae [aa 44 1,aa 4 44]) <|
  .ret) (.skip))
def jx:DF:=⟨.seq (ae [aA 4 0]) <|
  .seq (ae [aA 5 0]) <|
  .seq (.block 0 (.loop nQ)) <|
  .seq (ae [aA 4 (-1)]) <|
  .ret,
  [.tmp 4],45⟩
theorem mX:aE Tryz.prog 215 []=some jx:=by kernel_rfl
def nX:DC :=
  .seq (.seq (ae [aa 12 1,aa 13 0,aK 14 13,aM 15 .lss 12 14]) <|
  .cond (.tmp 15) (.skip) (.exit 0)) <|
  .block 1 (.seq (.seq (ae [aa 16 0,aa 17 1,aL 18 1 16 17,ak 19 18,aa 20 5,aM 21 .eql 19 20]) <|
  .cond (.tmp 21) (.seq (ae [aa 22 1,av 23 .add 22 1,aa 4 23]) <|
  .ret) (.skip)) <|
  .seq (.seq (ae [aa 24 0,aa 25 1,aL 26 1 24 25,ak 27 26,((some 28),.op (.arith .eql (.tmp 27) (.val (.val (.int .u8 92)))))]) <|
  .cond (.tmp 28) (ae [aa 29 1,av 30 .add 29 1,aa 1 30]) (.skip)) <|
  ae [aa 31 1,av 32 .add 31 1,aa 1 32])
def jz:DF:=⟨.seq (ae [aA 4 0]) <|
  .seq (ae [aa 6 0,aa 7 1,aL 8 1 6 7,ak 9 8,aa 5 9]) <|
  .seq (ae [aa 10 1,av 11 .add 10 1,aa 1 11]) <|
  .seq (.block 0 (.loop nX)) <|
  .seq (ae [aA 4 (-1)]) <|
  .ret,
  [.tmp 4],33⟩
theorem mZ:aE Tryz.prog 232 []=some jz:=by kernel_rfl
def rI:DC :=
  .seq (.seq (ae [aa 16 7,aa 17 1,aM 18 .lss 16 17]) <|
  .cond (.tmp 18) (.skip) (.exit 0)) <|
  .seq (.block 1 (.seq (ae [aa 21 6,av 22 .add 21 1,aa 6 22]) <|
  .seq (ae [aa 23 0,aa 24 7,aL 25 1 23 24,ak 26 25,((some 27),.op (.arith .eql (.tmp 26) (.val (.val (.int .u8 10)))))]) <|
  .cond (.tmp 27) (ae [aa 28 5,av 29 .add 28 1,aa 5 29,aA 6 1]) (.skip))) <|
  ae [aa 19 7,av 20 .add 19 1,aa 7 20]
def mj:DF:=⟨.seq (ae [((some 4),.op (.aX (.val (.val (.complex .f64 0 0)))))]) <|
  .seq (.seq (.region [] [⟨none,[aa 8 1,av 9 .lss 8 0,aa 10 9]⟩,⟨(some (10,false)),[aa 11 1,aa 12 0,aK 13 12,aM 14 .gtr 11 13]⟩,⟨none,[bU 15 10 14]⟩]) <|
  .cond (.tmp 15) (.seq (ae [((some 4),.op (.aX (.val (.val (.complex .f64 0 0)))))]) <|
  .ret) (.skip)) <|
  .seq (ae [aA 5 1,aA 6 1]) <|
  .seq (.seq (ae [aA 7 0]) <|
  .block 0 (.loop rI)) <|
  .seq (ae [aa 30 5,aa 31 6,aD 32 216 [30,31],aa 4 32]) <|
  .ret,
  [.tmp 4],33⟩
theorem q5:aE Tryz.prog 178 []=some mj:=by kernel_rfl
def mO:DF:=⟨.seq (ae [((some 4),.op (.aX (.val (.val (.complex .f64 0 0)))))]) <|
  .seq (.seq (.region [] [⟨none,[aa 5 0,av 6 .lss 5 1,aa 7 6]⟩,⟨(some (7,false)),[aa 8 0,av 9 .gtr 8 1073741824]⟩,⟨none,[bU 10 7 9,aa 11 10]⟩,⟨(some (11,false)),[aa 12 1,av 13 .lss 12 1]⟩,⟨none,[bU 14 11 13,aa 15 14]⟩,⟨(some (15,false)),[aa 16 1,av 17 .gtr 16 1073741824]⟩,⟨none,[bU 18 15 17]⟩]) <|
  .cond (.tmp 18) (.seq (ae [((some 4),.op (.aX (.val (.val (.complex .f64 0 0)))))]) <|
  .ret) (.skip)) <|
  .seq (ae [aa 19 0,((some 20),.op (.old (.convert 3 275 (.tmp 19)) 275)),aa 21 1,((some 22),.op (.old (.convert 3 275 (.tmp 21)) 275)),((some 23),.op (.old (.call { callee:=.builtin .complex,args:=#[(.tmp 20),(.tmp 22)],argTypes:=#[275,275] }) 88)),aa 4 23]) <|
  .ret,
  [.tmp 4],24⟩
theorem q0:aE Tryz.prog 216 []=some mO:=by kernel_rfl
def qV:DC :=
  .seq (.seq (.region [] [⟨none,[aa 27 9,aa 28 0,aK 29 28,aM 30 .lss 27 29,aa 31 30]⟩,⟨(some (31,true)),[aa 32 0,aa 33 9,aL 34 1 32 33,ak 35 34,aD 36 194 [35]]⟩,⟨none,[bC 37 31 36]⟩]) <|
  .cond (.tmp 37) (.skip) (.exit 1)) <|
  .block 2 (ae [aa 38 9,av 39 .add 38 1,aa 9 39])
def q7:DC :=
  .seq (.seq (ae [aa 58 10,av 59 .leq 58 4]) <|
  .cond (.tmp 59) (.skip) (.exit 3)) <|
  .seq (.block 4 (.seq (.region [] [⟨none,[aa 62 1,aa 63 10,aM 64 .add 62 63,aa 65 0,aK 66 65,aM 67 .leq 64 66,aa 68 67]⟩,⟨(some (68,true)),[aa 69 0,aa 70 1,aa 71 1,aa 72 10,aM 73 .add 71 72,((some 74),.op (.slice 1 (.tmp 69) (some (.tmp 70)) (some (.tmp 73)))),((some 75),.op (.old (.convert 91 9 (.tmp 74)) 9)),aD 76 192 [75]]⟩,⟨none,[bC 77 68 76]⟩]) <|
  .cond (.tmp 77) (.seq (.region [(6,8)] [⟨none,[aa 78 0,aa 79 1,aa 80 1,aa 81 10,aM 82 .add 80 81,((some 83),.op (.slice 1 (.tmp 78) (some (.tmp 79)) (some (.tmp 82)))),((some 84),.op (.old (.convert 91 9 (.tmp 83)) 9)),al 85 0 7,(none,.op (.store 1 (.tmp 85) (.val (.val (.int .i64 2))))),al 86 1 7,(none,.op (.store 1 (.tmp 86) (.tmp 84)))]⟩]) <|
  .seq (ae [aO 87 3 7,aa 88 1,aa 89 10,aM 90 .add 88 89,(none,.op (.store 3 (.tmp 4) (.tmp 87))),aa 5 90,aA 6 0]) <|
  .ret) (.skip))) <|
  ae [aa 60 10,av 61 .add 60 1,aa 10 61]
def q6:DC :=
  .seq (.seq (.region [] [⟨none,[aa 108 9,aa 109 0,aK 110 109,aM 111 .lss 108 110,aa 112 111]⟩,⟨(some (112,true)),[aa 113 0,aa 114 9,aL 115 1 113 114,ak 116 115,((some 117),.op (.arith .geq (.tmp 116) (.val (.val (.int .u8 97)))))]⟩,⟨none,[bC 118 112 117,aa 119 118]⟩,⟨(some (119,true)),[aa 120 0,aa 121 9,aL 122 1 120 121,ak 123 122,((some 124),.op (.arith .leq (.tmp 123) (.val (.val (.int .u8 122)))))]⟩,⟨none,[bC 125 119 124]⟩]) <|
  .cond (.tmp 125) (.skip) (.exit 5)) <|
  .block 6 (ae [aa 126 9,av 127 .add 126 1,aa 9 127])
def lF:DF:=⟨.seq (.region [] [⟨none,[((some 4),.op (.alloc [(.val (.int .i64 0)),(.val (.string ⟨#[]⟩)),(.val (.complex .f64 0 0))])),aA 5 0,aA 6 0]⟩]) <|
  .seq (.region [] [⟨none,[aa 11 0,aa 12 1,aD 13 178 [11,12],((some 14),.op (.build [(.val (.int .i64 0)),(.val (.string ⟨#[]⟩)),(.val (.complex .f64 0 0))] [(2,1,(.tmp 13))])),((some 7),.op (.alloc [(.val (.int .i64 0)),(.val (.string ⟨#[]⟩)),(.val (.complex .f64 0 0))])),(none,.op (.store 3 (.tmp 7) (.tmp 14)))]⟩]) <|
  .seq (ae [aa 15 0,aa 16 1,aL 17 1 15 16,ak 18 17,aa 8 18]) <|
  .seq (ae [aa 19 1,av 20 .add 19 1,aa 9 20]) <|
  .seq (.block 0 (.seq (ae [aa 25 8,aD 26 193 [25],aa 24 26]) <|
  .cond (.tmp 24) (.seq (.block 1 (.loop qV)) <|
  .seq (.seq (ae [aa 40 9,aa 41 1,aM 42 .sub 40 41,av 43 .gtr 42 20]) <|
  .cond (.tmp 43) (.seq (ae [aO 44 3 7,aa 45 9,(none,.op (.store 3 (.tmp 4) (.tmp 44))),aa 5 45,aA 6 5]) <|
  .ret) (.skip)) <|
  .seq (.region [(4,6)] [⟨none,[aa 46 0,aa 47 1,aa 48 9,((some 49),.op (.slice 1 (.tmp 46) (some (.tmp 47)) (some (.tmp 48)))),((some 50),.op (.old (.convert 91 9 (.tmp 49)) 9)),al 51 0 7,(none,.op (.store 1 (.tmp 51) (.val (.val (.int .i64 1))))),al 52 1 7,(none,.op (.store 1 (.tmp 52) (.tmp 50)))]⟩]) <|
  .seq (ae [aO 53 3 7,aa 54 9,(none,.op (.store 3 (.tmp 4) (.tmp 53))),aa 5 54,aA 6 0]) <|
  .ret) (.seq (ae [aa 56 8,((some 57),.op (.arith .eql (.tmp 56) (.val (.val (.int .u8 39))))),aa 55 57]) <|
  .cond (.tmp 55) (.seq (.seq (ae [aA 10 3]) <|
  .block 3 (.loop q7)) <|
  .seq (.region [(0,5)] [⟨none,[aO 91 3 7,aa 92 9,aa 93 0,aa 94 1,((some 95),.op (.slice 1 (.tmp 93) (some (.tmp 94)) none)),aD 96 217 [95],(none,.op (.store 3 (.tmp 4) (.tmp 91))),aa 5 92,aa 6 96]⟩]) <|
  .ret) (.seq (.region [] [⟨none,[aa 98 0,aa 99 1,ca 100 212 [(.tmp 98),(.tmp 99),(.val (.val (.string ⟨#[37,37]⟩)))],aa 97 100]⟩]) <|
  .cond (.tmp 97) (.seq (ae [al 101 0 7,(none,.op (.store 1 (.tmp 101) (.val (.val (.int .i64 9)))))]) <|
  .seq (ae [aO 102 3 7,aa 103 1,av 104 .add 103 2,(none,.op (.store 3 (.tmp 4) (.tmp 102))),aa 5 104,aA 6 0]) <|
  .ret) (.seq (ae [aa 106 8,((some 107),.op (.arith .eql (.tmp 106) (.val (.val (.int .u8 37))))),aa 105 107]) <|
  .cond (.tmp 105) (.seq (.block 5 (.loop q6)) <|
  ae [aa 128 0,aa 129 1,av 130 .add 129 1,aa 131 9,((some 132),.op (.slice 1 (.tmp 128) (some (.tmp 130)) (some (.tmp 131)))),((some 133),.op (.old (.convert 91 9 (.tmp 132)) 9)),aD 134 218 [133],al 135 0 7,(none,.op (.store 1 (.tmp 135) (.tmp 134)))]) (ae [aa 21 8,aD 22 219 [21],al 23 0 7,(none,.op (.store 1 (.tmp 23) (.tmp 22)))])))))) <|
  .seq (.seq (ae [al 136 0 7,ak 137 136,av 138 .eql 137 0]) <|
  .cond (.tmp 138) (.seq (ae [aO 139 3 7,aa 140 9,(none,.op (.store 3 (.tmp 4) (.tmp 139))),aa 5 140,aA 6 3]) <|
  .ret) (.skip)) <|
  .seq (ae [aO 141 3 7,aa 142 9,(none,.op (.store 3 (.tmp 4) (.tmp 141))),aa 5 142,aA 6 0]) <|
  .ret,
  [.cell 4 (some 3),.tmp 5,.tmp 6],143⟩
theorem pD:aE Tryz.prog 179 []=some lF:=by kernel_rfl
def jU:DF:=⟨.seq (ae [bd 2 false]) <|
  .seq (.region [] [⟨none,[aa 3 0,aD 4 193 [3],aa 5 4]⟩,⟨(some (5,false)),[aa 6 0,((some 7),.op (.arith .geq (.tmp 6) (.val (.val (.int .u8 48))))),aa 8 7]⟩,⟨(some (8,true)),[aa 9 0,((some 10),.op (.arith .leq (.tmp 9) (.val (.val (.int .u8 57)))))]⟩,⟨(some (5,false)),[bC 11 8 10]⟩,⟨none,[bU 12 5 11,aa 13 12]⟩,⟨(some (13,false)),[aa 14 0,((some 15),.op (.arith .eql (.tmp 14) (.val (.val (.int .u8 46)))))]⟩,⟨none,[bU 16 13 15,aa 2 16]⟩]) <|
  .ret,
  [.tmp 2],17⟩
theorem nT:aE Tryz.prog 194 []=some jU:=by kernel_rfl
def jM:DF:=⟨.seq (ae [bd 2 false]) <|
  .seq (.region [] [⟨none,[aa 3 0,((some 4),.op (.arith .geq (.tmp 3) (.val (.val (.int .u8 97))))),aa 5 4]⟩,⟨(some (5,true)),[aa 6 0,((some 7),.op (.arith .leq (.tmp 6) (.val (.val (.int .u8 122)))))]⟩,⟨none,[bC 8 5 7,aa 9 8]⟩,⟨(some (9,false)),[aa 10 0,((some 11),.op (.arith .geq (.tmp 10) (.val (.val (.int .u8 65))))),aa 12 11]⟩,⟨(some (12,true)),[aa 13 0,((some 14),.op (.arith .leq (.tmp 13) (.val (.val (.int .u8 90)))))]⟩,⟨(some (9,false)),[bC 15 12 14]⟩,⟨none,[bU 16 9 15,aa 17 16]⟩,⟨(some (17,false)),[aa 18 0,((some 19),.op (.arith .eql (.tmp 18) (.val (.val (.int .u8 95)))))]⟩,⟨none,[bU 20 17 19,aa 2 20]⟩]) <|
  .ret,
  [.tmp 2],21⟩
theorem od:aE Tryz.prog 193 []=some jM:=by kernel_rfl
def iP:DF:=⟨.seq (ae [bd 2 false]) <|
  .seq (.seq (ae [aa 3 0,((some 4),.op (.ib (.tmp 3))),av 5 .eql 4 3]) <|
  .cond (.tmp 5) (.seq (.region [] [⟨none,[aa 6 0,((some 7),.op (.dY (.tmp 6) (.val (.val (.int .i64 0))))),((some 8),.op (.arith .eql (.tmp 7) (.val (.val (.int .u8 39))))),aa 9 8]⟩,⟨(some (9,true)),[aa 10 0,((some 11),.op (.dY (.tmp 10) (.val (.val (.int .i64 2))))),((some 12),.op (.arith .eql (.tmp 11) (.val (.val (.int .u8 39)))))]⟩,⟨none,[bC 13 9 12,aa 14 13]⟩,⟨(some (14,true)),[aa 15 0,((some 16),.op (.dY (.tmp 15) (.val (.val (.int .i64 1))))),((some 17),.op (.arith .geq (.tmp 16) (.val (.val (.int .u8 32)))))]⟩,⟨none,[bC 18 14 17,aa 19 18]⟩,⟨(some (19,true)),[aa 20 0,((some 21),.op (.dY (.tmp 20) (.val (.val (.int .i64 1))))),((some 22),.op (.arith .leq (.tmp 21) (.val (.val (.int .u8 126)))))]⟩,⟨none,[bC 23 19 22,aa 24 23]⟩,⟨(some (24,true)),[aa 25 0,((some 26),.op (.dY (.tmp 25) (.val (.val (.int .i64 1))))),((some 27),.op (.arith .neq (.tmp 26) (.val (.val (.int .u8 39)))))]⟩,⟨none,[bC 28 24 27,aa 29 28]⟩,⟨(some (29,true)),[aa 30 0,((some 31),.op (.dY (.tmp 30) (.val (.val (.int .i64 1))))),((some 32),.op (.arith .neq (.tmp 31) (.val (.val (.int .u8 92)))))]⟩,⟨none,[bC 33 29 32,aa 2 33]⟩]) <|
  .ret) (.skip)) <|
  .seq (.region [] [⟨none,[aa 34 0,((some 35),.op (.ib (.tmp 34))),av 36 .eql 35 4,aa 37 36]⟩,⟨(some (37,true)),[aa 38 0,((some 39),.op (.dY (.tmp 38) (.val (.val (.int .i64 0))))),((some 40),.op (.arith .eql (.tmp 39) (.val (.val (.int .u8 39)))))]⟩,⟨none,[bC 41 37 40,aa 42 41]⟩,⟨(some (42,true)),[aa 43 0,((some 44),.op (.dY (.tmp 43) (.val (.val (.int .i64 3))))),((some 45),.op (.arith .eql (.tmp 44) (.val (.val (.int .u8 39)))))]⟩,⟨none,[bC 46 42 45,aa 47 46]⟩,⟨(some (47,true)),[aa 48 0,((some 49),.op (.dY (.tmp 48) (.val (.val (.int .i64 1))))),((some 50),.op (.arith .eql (.tmp 49) (.val (.val (.int .u8 92)))))]⟩,⟨none,[bC 51 47 50,aa 52 51]⟩,⟨(some (52,true)),[aa 53 0,((some 54),.op (.dY (.tmp 53) (.val (.val (.int .i64 2))))),((some 55),.op (.arith .eql (.tmp 54) (.val (.val (.int .u8 110))))),aa 56 55]⟩,⟨(some (56,false)),[aa 57 0,((some 58),.op (.dY (.tmp 57) (.val (.val (.int .i64 2))))),((some 59),.op (.arith .eql (.tmp 58) (.val (.val (.int .u8 116)))))]⟩,⟨(some (52,true)),[bU 60 56 59,aa 61 60]⟩,⟨(some (61,false)),[aa 62 0,((some 63),.op (.dY (.tmp 62) (.val (.val (.int .i64 2))))),((some 64),.op (.arith .eql (.tmp 63) (.val (.val (.int .u8 92)))))]⟩,⟨(some (52,true)),[bU 65 61 64,aa 66 65]⟩,⟨(some (66,false)),[aa 67 0,((some 68),.op (.dY (.tmp 67) (.val (.val (.int .i64 2))))),((some 69),.op (.arith .eql (.tmp 68) (.val (.val (.int .u8 39)))))]⟩,⟨(some (52,true)),[bU 70 66 69]⟩,⟨none,[bC 71 52 70,aa 2 71]⟩]) <|
  .ret,
  [.tmp 2],72⟩
theorem mS:aE Tryz.prog 192 []=some iP:=by kernel_rfl
def mY:DC :=
  .seq (.seq (ae [aa 6 4,aa 7 3,aK 8 7,aM 9 .lss 6 8]) <|
  .cond (.tmp 9) (.skip) (.exit 0)) <|
  .seq (.block 1 (.seq (.region [(5,9)] [⟨none,[aa 12 0,aK 13 12,av 14 .lss 13 4,aa 15 14]⟩,⟨(some (15,true)),[aa 16 0,((some 17),.op (.old (.convert 91 9 (.tmp 16)) 9)),aa 18 3,aa 19 4,aL 20 1 18 19,ak 21 20,((some 22),.op (.hE .add (.tmp 17) (.tmp 21))),aD 23 192 [22]]⟩,⟨none,[bC 24 15 23]⟩]) <|
  .cond (.tmp 24) (.seq (ae [aA 2 4]) <|
  .ret) (.skip))) <|
  ae [aa 10 4,av 11 .add 10 1,aa 4 11]
def iQ:DF:=⟨.seq (ae [aA 2 0]) <|
  .seq (.region [] [⟨none,[((some 5),.op (.bg 5 1 [(.val (.string ⟨#[]⟩))] [(0,(.val (.val (.string ⟨#[120,39]⟩)))),(1,(.val (.val (.string ⟨#[39]⟩)))),(2,(.val (.val (.string ⟨#[92,110,39]⟩)))),(3,(.val (.val (.string ⟨#[110,39]⟩)))),(4,(.val (.val (.string ⟨#[92,39,39]⟩))))])),aa 3 5]⟩]) <|
  .seq (.seq (ae [aA 4 0]) <|
  .block 0 (.loop mY)) <|
  .seq (ae [aA 2 3]) <|
  .ret,
  [.tmp 2],25⟩
theorem mU:aE Tryz.prog 217 []=some iQ:=by kernel_rfl
def iW:DF:=⟨.seq (ae [aA 2 0]) <|
  .seq (.seq (ae [aa 3 0]) <|
  .block 0 (.seq (.region [] [⟨none,[((some 5),.op (.hE .eql (.tmp 3) (.val (.val (.string ⟨#[116,111,107,101,110]⟩))))),aa 4 5]⟩]) <|
  .cond (.tmp 4) (.seq (ae [aA 2 3]) <|
  .ret) (.seq (.region [] [⟨none,[((some 7),.op (.hE .eql (.tmp 3) (.val (.val (.string ⟨#[108,101,102,116]⟩))))),aa 6 7]⟩]) <|
  .cond (.tmp 6) (.seq (ae [aA 2 4]) <|
  .ret) (.seq (.region [] [⟨none,[((some 9),.op (.hE .eql (.tmp 3) (.val (.val (.string ⟨#[114,105,103,104,116]⟩))))),aa 8 9]⟩]) <|
  .cond (.tmp 8) (.seq (ae [aA 2 5]) <|
  .ret) (.seq (.region [] [⟨none,[((some 11),.op (.hE .eql (.tmp 3) (.val (.val (.string ⟨#[110,111,110,97,115,115,111,99]⟩))))),aa 10 11]⟩]) <|
  .cond (.tmp 10) (.seq (ae [aA 2 6]) <|
  .ret) (.seq (.region [] [⟨none,[((some 13),.op (.hE .eql (.tmp 3) (.val (.val (.string ⟨#[115,116,97,114,116]⟩))))),aa 12 13]⟩]) <|
  .cond (.tmp 12) (.seq (ae [aA 2 7]) <|
  .ret) (.seq (.region [] [⟨none,[((some 15),.op (.hE .eql (.tmp 3) (.val (.val (.string ⟨#[112,114,101,99]⟩))))),aa 14 15]⟩]) <|
  .cond (.tmp 14) (.seq (ae [aA 2 8]) <|
  .ret) (.skip)))))))) <|
  .seq (ae [aA 2 0]) <|
  .ret,
  [.tmp 2],16⟩
theorem mV:aE Tryz.prog 218 []=some iW:=by kernel_rfl
def k8:DF:=⟨.seq (ae [aA 2 0]) <|
  .seq (.seq (ae [aa 3 0]) <|
  .block 0 (.seq (ae [((some 5),.op (.arith .eql (.tmp 3) (.val (.val (.int .u8 58))))),aa 4 5]) <|
  .cond (.tmp 4) (.seq (ae [aA 2 10]) <|
  .ret) (.seq (ae [((some 7),.op (.arith .eql (.tmp 3) (.val (.val (.int .u8 124))))),aa 6 7]) <|
  .cond (.tmp 6) (.seq (ae [aA 2 11]) <|
  .ret) (.seq (ae [((some 9),.op (.arith .eql (.tmp 3) (.val (.val (.int .u8 59))))),aa 8 9]) <|
  .cond (.tmp 8) (.seq (ae [aA 2 12]) <|
  .ret) (.skip))))) <|
  .seq (ae [aA 2 0]) <|
  .ret,
  [.tmp 2],10⟩
theorem pk:aE Tryz.prog 219 []=some k8:=by kernel_rfl
def ra:DC :=
  .seq (.seq (.region [] [⟨none,[aa 21 7,aZ 22 21,al 23 3 22,ak 24 23,av 25 .eql 24 0,aa 26 25]⟩,⟨(some (26,true)),[aa 27 7,aZ 28 27,al 29 0 28,ak 30 29,aK 31 30,av 32 .gtr 31 0]⟩,⟨none,[bC 33 26 32,aa 34 33]⟩,⟨(some (34,true)),[aa 35 7,aD 36 183 [35],av 37 .neq 36 9]⟩,⟨none,[bC 38 34 37]⟩]) <|
  .cond (.tmp 38) (.skip) (.exit 0)) <|
  .block 1 (.region [(1,3)] [⟨none,[al 39 1 8,ak 40 39,aa 41 7,aD 42 182 [41],((some 43),.op (.app 5 88 (.tmp 40) (.tmp 42))),al 44 1 8,(none,.op (.store 1 (.tmp 44) (.tmp 43)))]⟩])
def mf:DF:=⟨.seq (ae [((some 4),.op (.alloc [(.emp 1),(.emp 1)])),((some 5),.op (.aX (.val (.val (.complex .f64 0 0))))),aA 6 0]) <|
  .seq (ae [aa 9 0,aa 10 1,((some 11),.op (.build [(.emp 1),(.val (.complex .f64 0 0)),(.val (.complex .f64 0 0)),(.val (.int .i64 0))] [(0,1,(.tmp 9)),(1,1,(.tmp 10))])),((some 12),.op (.box (.tmp 11))),aa 7 12]) <|
  .seq (ae [aa 13 7,aD 14 180 [13],((some 15),.op (.build [(.emp 1),(.emp 1)] [(0,1,(.tmp 14))])),((some 8),.op (.alloc [(.emp 1),(.emp 1)])),(none,.op (.store 2 (.tmp 8) (.tmp 15)))]) <|
  .seq (ae [aa 16 7,ca 17 181 [(.tmp 16),(.val (.val (.int .i64 9))),(.val (.val (.int .i64 9)))]]) <|
  .seq (ae [aa 18 7,aD 19 182 [18],al 20 1 8,(none,.op (.store 1 (.tmp 20) (.tmp 19)))]) <|
  .seq (.block 0 (.loop ra)) <|
  .seq (.seq (.region [] [⟨none,[aa 45 7,aZ 46 45,al 47 3 46,ak 48 47,av 49 .eql 48 0,aa 50 49]⟩,⟨(some (50,true)),[aa 51 7,aZ 52 51,al 53 0 52,ak 54 53,aK 55 54,av 56 .gtr 55 0]⟩,⟨none,[bC 57 50 56]⟩]) <|
  .cond (.tmp 57) (ae [aa 58 7,ca 59 181 [(.tmp 58),(.val (.val (.int .i64 9))),(.val (.val (.int .i64 9)))]]) (.skip)) <|
  .seq (.seq (ae [aa 60 7,aZ 61 60,al 62 0 61,ak 63 62,aK 64 63,av 65 .gtr 64 0]) <|
  .cond (.tmp 65) (ae [aa 66 7,aD 67 184 [66]]) (.skip)) <|
  .seq (.seq (ae [aa 68 7,aZ 69 68,al 70 3 69,ak 71 70,av 72 .neq 71 0]) <|
  .cond (.tmp 72) (.seq (.region [(4,9),(8,9)] [⟨none,[((some 73),.op (.build [(.emp 1),(.emp 1)] [])),aa 74 7,aZ 75 74,al 76 2 75,ak 77 76,aa 78 7,aZ 79 78,al 80 3 79,ak 81 80,(none,.op (.store 2 (.tmp 4) (.tmp 73))),aa 5 77,aa 6 81]⟩]) <|
  .ret) (.skip)) <|
  .seq (ae [aO 82 2 8,(none,.op (.store 2 (.tmp 4) (.tmp 82))),((some 5),.op (.aX (.val (.val (.complex .f64 0 0))))),aA 6 0]) <|
  .ret,
  [.cell 4 (some 2),.tmp 5,.tmp 6],83⟩
theorem qU:aE Tryz.prog 135 []=some mf:=by kernel_rfl
def gg:DF:=⟨.seq (ae [aA 2 0]) <|
  .seq (.seq (.region [] [⟨none,[aa 3 0,aZ 4 3,al 5 3 4,ak 6 5,av 7 .neq 6 0,aa 8 7]⟩,⟨(some (8,false)),[aa 9 0,aZ 10 9,al 11 0 10,ak 12 11,aK 13 12,av 14 .eql 13 0]⟩,⟨none,[bU 15 8 14]⟩]) <|
  .cond (.tmp 15) (.seq (ae [aA 2 0]) <|
  .ret) (.skip)) <|
  .seq (ae [aa 16 0,aZ 17 16,al 18 0 17,ak 19 18,((some 20),.op (.idx 3 (.tmp 19) (.val (.val (.int .i64 0))))),al 21 0 20,ak 22 21,aa 2 22]) <|
  .ret,
  [.tmp 2],23⟩
theorem j4:aE Tryz.prog 183 []=some gg:=by kernel_rfl
def kd:DC :=
  .seq (.seq (ae [aa 10 0,aZ 11 10,al 12 3 11,ak 13 12,av 14 .eql 13 0]) <|
  .cond (.tmp 14) (.skip) (.exit 0)) <|
  .block 1 (.seq (.region [(0,2),(2,4)] [⟨none,[aO 15 2 4,aa 16 0,aD 17 220 [16],((some 18),.op (.build [(.val (.string ⟨#[]⟩)),(.val (.complex .f64 0 0)),(.emp 1),(.val (.string ⟨#[]⟩)),(.val (.complex .f64 0 0))] [(0,2,(.tmp 15)),(2,1,(.tmp 17))])),((some 5),.op (.alloc [(.val (.string ⟨#[]⟩)),(.val (.complex .f64 0 0)),(.emp 1),(.val (.string ⟨#[]⟩)),(.val (.complex .f64 0 0))])),(none,.op (.store 5 (.tmp 5) (.tmp 18)))]⟩]) <|
  .seq (.seq (ae [aa 19 0,ca 20 221 [(.tmp 19),(.val (.val (.int .i64 8))),(.val (.val (.int .i64 8)))]]) <|
  .cond (.tmp 20) (.seq (ae [aa 21 0,ca 22 181 [(.tmp 21),(.val (.val (.int .i64 8))),(.val (.val (.int .i64 8)))]]) <|
  ae [aa 23 0,ca 24 181 [(.tmp 23),(.val (.val (.int .i64 1))),(.val (.val (.int .i64 2)))],al 25 3 5,(none,.op (.store 2 (.tmp 25) (.tmp 24)))]) (.skip)) <|
  .seq (.region [] [⟨none,[aa 26 3,aO 27 5 5,((some 28),.op (.bg 1 5 [(.val (.string ⟨#[]⟩)),(.val (.complex .f64 0 0)),(.emp 1),(.val (.string ⟨#[]⟩)),(.val (.complex .f64 0 0))] [(0,(.tmp 27))])),((some 29),.op (.app 5 88 (.tmp 26) (.tmp 28))),aa 3 29]⟩]) <|
  .seq (.seq (ae [aa 30 0,ca 31 221 [(.tmp 30),(.val (.val (.int .i64 11))),(.val (.val (.int .i64 11)))],cF 32 31]) <|
  .cond (.tmp 32) (.seq (ae [aa 33 0,ca 34 181 [(.tmp 33),(.val (.val (.int .i64 12))),(.val (.val (.int .i64 12)))]]) <|
  .seq (ae [aa 35 3,aa 2 35]) <|
  .ret) (.skip)) <|
  ae [aa 36 0,ca 37 181 [(.tmp 36),(.val (.val (.int .i64 11))),(.val (.val (.int .i64 11)))]])
def fL:DF:=⟨.seq (ae [((some 2),.op (.aX (.val (.emp 1))))]) <|
  .seq (ae [((some 3),.op (.aX (.val (.emp 1))))]) <|
  .seq (.region [] [⟨none,[aa 6 0,ca 7 181 [(.tmp 6),(.val (.val (.int .i64 1))),(.val (.val (.int .i64 1)))],((some 4),.op (.alloc [(.val (.string ⟨#[]⟩)),(.val (.complex .f64 0 0))])),(none,.op (.store 2 (.tmp 4) (.tmp 7)))]⟩]) <|
  .seq (ae [aa 8 0,ca 9 181 [(.tmp 8),(.val (.val (.int .i64 10))),(.val (.val (.int .i64 10)))]]) <|
  .seq (.block 0 (.loop kd)) <|
  .seq (ae [aa 38 3,aa 2 38]) <|
  .ret,
  [.tmp 2],39⟩
theorem jH:aE Tryz.prog 182 []=some fL:=by kernel_rfl
def kI:DC :=
  .seq (.seq (ae [aa 4 0,ca 5 221 [(.tmp 4),(.val (.val (.int .i64 1))),(.val (.val (.int .i64 2)))]]) <|
  .cond (.tmp 5) (.skip) (.exit 0)) <|
  .block 1 (.region [] [⟨none,[aa 6 3,aa 7 0,ca 8 181 [(.tmp 7),(.val (.val (.int .i64 1))),(.val (.val (.int .i64 2)))],((some 9),.op (.bg 1 2 [(.val (.string ⟨#[]⟩)),(.val (.complex .f64 0 0))] [(0,(.tmp 8))])),((some 10),.op (.app 2 32 (.tmp 6) (.tmp 9))),aa 3 10]⟩])
def fY:DF:=⟨.seq (ae [((some 2),.op (.aX (.val (.emp 1))))]) <|
  .seq (ae [((some 3),.op (.aX (.val (.emp 1))))]) <|
  .seq (.block 0 (.loop kI)) <|
  .seq (ae [aa 11 3,aa 2 11]) <|
  .ret,
  [.tmp 2],12⟩
theorem j0:aE Tryz.prog 220 []=some fY:=by kernel_rfl
def g8:DF:=⟨.seq (ae [bd 6 false]) <|
  .seq (.region [] [⟨none,[aa 7 0,aZ 8 7,al 9 0 8,ak 10 9,aK 11 10,av 12 .gtr 11 0,aa 13 12]⟩,⟨(some (13,true)),[aa 14 0,aD 15 183 [14],aa 16 1,aM 17 .eql 15 16,aa 18 17]⟩,⟨(some (18,false)),[aa 19 0,aD 20 183 [19],aa 21 2,aM 22 .eql 20 21]⟩,⟨(some (13,true)),[bU 23 18 22]⟩,⟨none,[bC 24 13 23,aa 6 24]⟩]) <|
  .ret,
  [.tmp 6],25⟩
theorem lr:aE Tryz.prog 221 []=some g8:=by kernel_rfl
def ga:DF:=⟨.seq (.region [] [⟨none,[((some 6),.op (.alloc [(.val (.string ⟨#[]⟩)),(.val (.complex .f64 0 0))]))]⟩]) <|
  .seq (.seq (.region [] [⟨none,[aa 8 0,aZ 9 8,al 10 3 9,ak 11 10,av 12 .neq 11 0,aa 13 12]⟩,⟨(some (13,false)),[aa 14 0,aa 15 1,aa 16 2,aD 17 221 [14,15,16],cF 18 17]⟩,⟨none,[bU 19 13 18]⟩]) <|
  .cond (.tmp 19) (.seq (ae [aa 20 0,aD 21 184 [20]]) <|
  .seq (.region [] [⟨none,[((some 22),.op (.build [(.val (.string ⟨#[]⟩)),(.val (.complex .f64 0 0))] [])),(none,.op (.store 2 (.tmp 6) (.tmp 22)))]⟩]) <|
  .ret) (.skip)) <|
  .seq (.region [] [⟨none,[aa 23 0,aZ 24 23,al 25 0 24,ak 26 25,((some 27),.op (.idx 3 (.tmp 26) (.val (.val (.int .i64 0))))),aO 28 3 27,((some 7),.op (.alloc [(.val (.int .i64 0)),(.val (.string ⟨#[]⟩)),(.val (.complex .f64 0 0))])),(none,.op (.store 3 (.tmp 7) (.tmp 28)))]⟩]) <|
  .seq (ae [aa 29 0,aa 30 0,aZ 31 30,al 32 0 31,ak 33 32,((some 34),.op (.slice 3 (.tmp 33) (some (.val (.val (.int .i64 1)))) none)),aZ 35 29,al 36 0 35,(none,.op (.store 1 (.tmp 36) (.tmp 34)))]) <|
  .seq (.region [] [⟨none,[al 37 1 7,ak 38 37,al 39 2 7,ak 40 39,((some 41),.op (.build [(.val (.string ⟨#[]⟩)),(.val (.complex .f64 0 0))] [(0,1,(.tmp 38)),(1,1,(.tmp 40))])),(none,.op (.store 2 (.tmp 6) (.tmp 41)))]⟩]) <|
  .ret,
  [.cell 6 (some 2)],42⟩
theorem kc:aE Tryz.prog 181 []=some ga:=by kernel_rfl
def gn:DF:=⟨.seq (.seq (ae [aa 2 0,aZ 3 2,al 4 3 3,ak 5 4,av 6 .neq 5 0]) <|
  .cond (.tmp 6) (.ret) (.skip)) <|
  .seq (ae [aa 7 0,aa 8 0,aa 9 0,aZ 10 9,al 11 1 10,ak 12 11,aZ 13 7,al 14 2 13,(none,.op (.store 1 (.tmp 14) (.tmp 12))),aZ 15 8,al 16 3 15,(none,.op (.store 1 (.tmp 16) (.val (.val (.int .i64 4)))))]) <|
  .seq (ae [aa 17 0,aZ 18 17,al 19 0 18,ak 20 19,aK 21 20,av 22 .gtr 21 0]) <|
  .cond (.tmp 22) (ae [aa 23 0,aa 24 0,aa 25 0,aZ 26 25,al 27 0 26,ak 28 27,((some 29),.op (.idx 3 (.tmp 28) (.val (.val (.int .i64 0))))),al 30 2 29,ak 31 30,aZ 32 23,al 33 2 32,(none,.op (.store 1 (.tmp 33) (.tmp 31))),aZ 34 24,al 35 3 34,(none,.op (.store 1 (.tmp 35) (.val (.val (.int .i64 3)))))]) (.skip),
  [],36⟩
theorem ke:aE Tryz.prog 184 []=some gn:=by kernel_rfl
def j1:DC :=
  .seq (.seq (.region [] [⟨none,[aa 6 0,aZ 7 6,al 8 3 7,ak 9 8,av 10 .eql 9 0,aa 11 10]⟩,⟨(some (11,true)),[aa 12 0,aZ 13 12,al 14 0 13,ak 15 14,aK 16 15,av 17 .gtr 16 0]⟩,⟨none,[bC 18 11 17,aa 19 18]⟩,⟨(some (19,true)),[aa 20 0,aD 21 183 [20],av 22 .neq 21 9]⟩,⟨none,[bC 23 19 22]⟩]) <|
  .cond (.tmp 23) (.skip) (.exit 0)) <|
  .block 1 (.seq (ae [aa 24 0,aD 25 183 [24],aa 4 25]) <|
  .seq (.seq (ae [aa 26 4,av 27 .eql 26 7]) <|
  .cond (.tmp 27) (.seq (ae [aa 28 0,aa 29 4,aa 30 4,aD 31 181 [28,29,30]]) <|
  .seq (.region [] [⟨none,[aa 32 3,aa 33 4,aa 34 0,ca 35 181 [(.tmp 34),(.val (.val (.int .i64 1))),(.val (.val (.int .i64 1)))],((some 36),.op (.bg 1 2 [(.val (.string ⟨#[]⟩)),(.val (.complex .f64 0 0))] [(0,(.tmp 35))])),((some 37),.op (.build [(.val (.int .i64 0)),(.emp 1)] [(0,1,(.tmp 33)),(1,1,(.tmp 36))])),((some 38),.op (.bg 1 2 [(.val (.int .i64 0)),(.emp 1)] [(0,(.tmp 37))])),((some 39),.op (.app 2 32 (.tmp 32) (.tmp 38))),aa 3 39]⟩]) <|
  .exit 1) (.skip)) <|
  .seq (.seq (.region [] [⟨none,[aa 40 4,av 41 .neq 40 3,aa 42 41]⟩,⟨(some (42,true)),[aa 43 4,av 44 .neq 43 4]⟩,⟨none,[bC 45 42 44,aa 46 45]⟩,⟨(some (46,true)),[aa 47 4,av 48 .neq 47 5]⟩,⟨none,[bC 49 46 48,aa 50 49]⟩,⟨(some (50,true)),[aa 51 4,av 52 .neq 51 6]⟩,⟨none,[bC 53 50 52]⟩]) <|
  .cond (.tmp 53) (.seq (ae [aa 54 0,aD 55 184 [54]]) <|
  .exit 1) (.skip)) <|
  .seq (ae [aa 56 0,aa 57 4,aa 58 4,aD 59 181 [56,57,58]]) <|
  .seq (.region [] [⟨none,[aa 60 0,ca 61 181 [(.tmp 60),(.val (.val (.int .i64 1))),(.val (.val (.int .i64 2)))],((some 5),.op (.alloc [(.val (.string ⟨#[]⟩)),(.val (.complex .f64 0 0))])),(none,.op (.store 2 (.tmp 5) (.tmp 61)))]⟩]) <|
  .region [(2,5),(3,5)] [⟨none,[aa 62 3,aa 63 4,aO 64 2 5,((some 65),.op (.bg 1 2 [(.val (.string ⟨#[]⟩)),(.val (.complex .f64 0 0))] [(0,(.tmp 64))])),aa 66 0,aD 67 220 [66],((some 68),.op (.app 2 32 (.tmp 65) (.tmp 67))),((some 69),.op (.build [(.val (.int .i64 0)),(.emp 1)] [(0,1,(.tmp 63)),(1,1,(.tmp 68))])),((some 70),.op (.bg 1 2 [(.val (.int .i64 0)),(.emp 1)] [(0,(.tmp 69))])),((some 71),.op (.app 2 32 (.tmp 62) (.tmp 70))),aa 3 71]⟩])
def fM:DF:=⟨.seq (ae [((some 2),.op (.aX (.val (.emp 1))))]) <|
  .seq (ae [((some 3),.op (.aX (.val (.emp 1))))]) <|
  .seq (.block 0 (.loop j1)) <|
  .seq (ae [aa 72 3,aa 2 72]) <|
  .ret,
  [.tmp 2],73⟩
theorem jJ:aE Tryz.prog 180 []=some fM:=by kernel_rfl
def oF:DC :=
  .seq (.seq (.region [] [⟨none,[aa 17 6,al 18 1 1,ak 19 18,aK 20 19,aM 21 .lss 17 20,aa 22 21]⟩,⟨(some (22,true)),[aa 23 5,aZ 24 23,al 25 10 24,ak 26 25,av 27 .eql 26 0]⟩,⟨none,[bC 28 22 27]⟩]) <|
  .cond (.tmp 28) (.skip) (.exit 0)) <|
  .seq (.block 1 (ae [aa 31 5,al 32 1 1,ak 33 32,aa 34 6,aL 35 5 33 34,aO 36 5 35,aD 37 138 [31,36]])) <|
  ae [aa 29 6,av 30 .add 29 1,aa 6 30]
def jV:DF:=⟨.seq (ae [cX 1 0,((some 2),.op (.alloc [(.emp 1),(.emp 1),(.emp 1),(.val (.int .i64 0))])),((some 3),.op (.aX (.val (.val (.complex .f64 0 0))))),aA 4 0]) <|
  .seq (.region [] [⟨none,[((some 7),.op (.build [(.emp 1),(.emp 1),(.emp 1),(.val (.int .i64 0)),(.emp 1),(.val (.string ⟨#[]⟩)),(.val (.complex .f64 0 0)),(.val (.bool false)),(.val (.int .i64 0)),(.val (.complex .f64 0 0)),(.val (.int .i64 0))] [])),((some 8),.op (.box (.tmp 7))),aa 5 8]⟩]) <|
  .seq (ae [aa 9 5,al 10 0 1,ak 11 10,aD 12 136 [9,11]]) <|
  .seq (ae [aa 13 5,al 14 1 1,ak 15 14,aD 16 137 [13,15]]) <|
  .seq (.seq (ae [aA 6 0]) <|
  .block 0 (.loop oF)) <|
  .seq (.seq (.region [] [⟨none,[aa 38 5,aZ 39 38,al 40 7 39,ak 41 40,aa 42 41]⟩,⟨(some (42,true)),[aa 43 5,aZ 44 43,al 45 0 44,aO 46 4 45,aa 47 5,aZ 48 47,al 49 5 48,al 50 0 49,ak 51 50,aD 52 139 [46,51],av 53 .lss 52 0]⟩,⟨none,[bC 54 42 53]⟩]) <|
  .cond (.tmp 54) (ae [aa 55 5,aa 56 5,aZ 57 56,al 58 5 57,aO 59 2 58,ca 60 140 [(.tmp 55),(.tmp 59),(.val (.val (.int .i64 8)))]]) (.skip)) <|
  .seq (.seq (ae [al 61 1 1,ak 62 61,aK 63 62,av 64 .eql 63 0]) <|
  .cond (.tmp 64) (.region [] [⟨none,[aa 65 5,((some 66),.op (.build [(.val (.string ⟨#[]⟩)),(.val (.complex .f64 0 0))] [])),ca 67 140 [(.tmp 65),(.tmp 66),(.val (.val (.int .i64 8)))]]⟩]) (.skip)) <|
  .seq (.seq (ae [aa 68 5,aZ 69 68,al 70 10 69,ak 71 70,av 72 .neq 71 0]) <|
  .cond (.tmp 72) (.seq (.region [(4,9),(8,9)] [⟨none,[((some 73),.op (.build [(.emp 1),(.emp 1),(.emp 1),(.val (.int .i64 0))] [])),aa 74 5,aZ 75 74,al 76 9 75,ak 77 76,aa 78 5,aZ 79 78,al 80 10 79,ak 81 80,(none,.op (.store 4 (.tmp 2) (.tmp 73))),aa 3 77,aa 4 81]⟩]) <|
  .ret) (.skip)) <|
  .seq (.seq (ae [aa 82 5,aZ 83 82,al 84 7 83,ak 85 84]) <|
  .cond (.tmp 85) (ae [aa 86 5,aa 87 5,aZ 88 87,al 89 0 88,aO 90 4 89,aa 91 5,aZ 92 91,al 93 5 92,al 94 0 93,ak 95 94,aD 96 139 [90,95],aZ 97 86,al 98 0 97,al 99 3 98,(none,.op (.store 1 (.tmp 99) (.tmp 96)))]) (.skip)) <|
  .seq (ae [aa 100 5,aZ 101 100,al 102 0 101,aO 103 4 102,(none,.op (.store 4 (.tmp 2) (.tmp 103))),((some 3),.op (.aX (.val (.val (.complex .f64 0 0))))),aA 4 0]) <|
  .ret,
  [.cell 2 (some 4),.tmp 3,.tmp 4],104⟩
theorem nV:aE Tryz.prog 95 [1]=some jV:=by kernel_rfl
def lX:DC :=
  .seq (.seq (.region [] [⟨none,[aa 28 5,al 29 2 3,ak 30 29,aK 31 30,aM 32 .lss 28 31,aa 33 32]⟩,⟨(some (33,true)),[aa 34 0,aZ 35 34,al 36 10 35,ak 37 36,av 38 .eql 37 0]⟩,⟨none,[bC 39 33 38]⟩]) <|
  .cond (.tmp 39) (.skip) (.exit 0)) <|
  .seq (.block 1 (.seq (.region [] [⟨none,[al 42 2 3,ak 43 42,aa 44 5,aL 45 2 43 44,aO 46 2 45,((some 6),.op (.alloc [(.val (.string ⟨#[]⟩)),(.val (.complex .f64 0 0))])),(none,.op (.store 2 (.tmp 6) (.tmp 46)))]⟩]) <|
  .seq (.seq (ae [al 47 0 6,ak 48 47,aD 49 151 [48],cF 50 49]) <|
  .cond (.tmp 50) (.seq (ae [aa 51 0,aO 52 2 6,ca 53 140 [(.tmp 51),(.tmp 52),(.val (.val (.int .i64 3)))]]) <|
  .ret) (.skip)) <|
  .seq (.seq (ae [aa 54 5,av 55 .eql 54 6]) <|
  .cond (.tmp 55) (.seq (ae [aa 56 0,aO 57 2 6,ca 58 140 [(.tmp 56),(.tmp 57),(.val (.val (.int .i64 5)))]]) <|
  .ret) (.skip)) <|
  .seq (ae [aa 59 0,aO 60 2 6,ca 61 186 [(.tmp 59),(.tmp 60),(.val (.val (.bool true)))],aa 7 61]) <|
  .seq (ae [al 62 1 4,ak 63 62,aa 64 7,((some 65),.op (.bg 1 1 [(.val (.int .i64 0))] [(0,(.tmp 64))])),((some 66),.op (.app 1 8 (.tmp 63) (.tmp 65))),al 67 1 4,(none,.op (.store 1 (.tmp 67) (.tmp 66)))]) <|
  .seq (ae [aa 68 7,av 69 .geq 68 0]) <|
  .cond (.tmp 69) (ae [aa 70 7,al 71 2 4,(none,.op (.store 1 (.tmp 71) (.tmp 70)))]) (.skip))) <|
  ae [aa 40 5,av 41 .add 40 1,aa 5 41]
def hD:DF:=⟨.seq (ae [cX 3 1]) <|
  .seq (.region [(7,9)] [⟨none,[aa 8 0,aZ 9 8,al 10 0 9,aO 11 4 10,al 12 0 3,al 13 0 12,ak 14 13,aD 15 139 [11,14],((some 16),.op (.build [(.val (.int .i64 0)),(.emp 1),(.val (.int .i64 0))] [(0,1,(.tmp 15)),(2,1,(.val (.val (.int .i64 (-1)))))])),((some 4),.op (.alloc [(.val (.int .i64 0)),(.emp 1),(.val (.int .i64 0))])),(none,.op (.store 3 (.tmp 4) (.tmp 16)))]⟩]) <|
  .seq (.seq (ae [aa 17 0,aZ 18 17,al 19 0 18,al 20 2 19,ak 21 20,aK 22 21,av 23 .eql 22 40]) <|
  .cond (.tmp 23) (ae [aa 24 0,al 25 0 3,aO 26 2 25,ca 27 140 [(.tmp 24),(.tmp 26),(.val (.val (.int .i64 5)))]]) (.skip)) <|
  .seq (.seq (ae [aA 5 0]) <|
  .block 0 (.loop lX)) <|
  .seq (.seq (.region [] [⟨none,[al 72 3 3,al 73 0 72,ak 74 73,((some 75),.op (.hE .neq (.tmp 74) (.val (.val (.string ⟨#[]⟩))))),aa 76 75]⟩,⟨(some (76,true)),[aa 77 0,aZ 78 77,al 79 10 78,ak 80 79,av 81 .eql 80 0]⟩,⟨none,[bC 82 76 81]⟩]) <|
  .cond (.tmp 82) (.seq (.seq (ae [al 83 3 3,al 84 0 83,ak 85 84,aD 86 151 [85],cF 87 86]) <|
  .cond (.tmp 87) (.seq (ae [aa 88 0,al 89 3 3,aO 90 2 89,ca 91 140 [(.tmp 88),(.tmp 90),(.val (.val (.int .i64 3)))]]) <|
  .ret) (.skip)) <|
  ae [aa 92 0,al 93 3 3,aO 94 2 93,ca 95 186 [(.tmp 92),(.tmp 94),(.val (.val (.bool false)))],al 96 2 4,(none,.op (.store 1 (.tmp 96) (.tmp 95)))]) (.skip)) <|
  ae [aa 97 0,aa 98 0,aZ 99 98,al 100 0 99,al 101 2 100,ak 102 101,aO 103 3 4,((some 104),.op (.bg 1 3 [(.val (.int .i64 0)),(.emp 1),(.val (.int .i64 0))] [(0,(.tmp 103))])),((some 105),.op (.app 3 40 (.tmp 102) (.tmp 104))),aZ 106 97,al 107 0 106,al 108 2 107,(none,.op (.store 1 (.tmp 108) (.tmp 105)))],
  [],109⟩
theorem ln:aE Tryz.prog 138 [3]=some hD:=by kernel_rfl
def jT:DF:=⟨.seq (ae [bd 2 false]) <|
  .seq (.region [] [⟨none,[aa 3 0,aD 4 154 [3],aa 5 4]⟩,⟨(some (5,false)),[aa 6 0,aD 7 192 [6]]⟩,⟨none,[bU 8 5 7,aa 2 8]⟩]) <|
  .ret,
  [.tmp 2],9⟩
theorem nS:aE Tryz.prog 151 []=some jT:=by kernel_rfl
def qb:DC :=
  .seq (.seq (ae [aa 18 3,aa 19 0,((some 20),.op (.ib (.tmp 19))),aM 21 .lss 18 20]) <|
  .cond (.tmp 21) (.skip) (.exit 0)) <|
  .seq (.block 1 (.seq (ae [aa 24 0,aa 25 3,((some 26),.op (.dY (.tmp 24) (.tmp 25))),aD 27 194 [26],cF 28 27]) <|
  .cond (.tmp 28) (.seq (ae [bd 2 false]) <|
  .ret) (.skip))) <|
  ae [aa 22 3,av 23 .add 22 1,aa 3 23]
def kB:DF:=⟨.seq (ae [bd 2 false]) <|
  .seq (.seq (.region [] [⟨none,[aa 4 0,((some 5),.op (.ib (.tmp 4))),av 6 .eql 5 0,aa 7 6]⟩,⟨(some (7,false)),[aa 8 0,((some 9),.op (.ib (.tmp 8))),av 10 .gtr 9 20]⟩,⟨none,[bU 11 7 10,aa 12 11]⟩,⟨(some (12,false)),[aa 13 0,((some 14),.op (.dY (.tmp 13) (.val (.val (.int .i64 0))))),aD 15 193 [14],cF 16 15]⟩,⟨none,[bU 17 12 16]⟩]) <|
  .cond (.tmp 17) (.seq (ae [bd 2 false]) <|
  .ret) (.skip)) <|
  .seq (.seq (ae [aA 3 0]) <|
  .block 0 (.loop qb)) <|
  .seq (ae [bd 2 true]) <|
  .ret,
  [.tmp 2],29⟩
theorem oG:aE Tryz.prog 154 []=some kB:=by kernel_rfl
def hO:DF:=⟨.seq (ae [cX 4 1]) <|
  .seq (ae [aa 6 0,aZ 7 6,al 8 10 7,ak 9 8,av 10 .eql 9 0]) <|
  .cond (.tmp 10) (ae [aa 11 0,aa 12 0,al 13 1 4,ak 14 13,aa 15 2,aZ 16 11,al 17 9 16,(none,.op (.store 1 (.tmp 17) (.tmp 14))),aZ 18 12,al 19 10 18,(none,.op (.store 1 (.tmp 19) (.tmp 15)))]) (.skip),
  [],20⟩
theorem lx:aE Tryz.prog 140 [4]=some hO:=by kernel_rfl
def gm:DF:=⟨.seq (ae [cX 4 1,aA 6 0]) <|
  .seq (ae [aa 8 0,aZ 9 8,al 10 0 9,aO 11 4 10,al 12 0 4,ak 13 12,aD 14 139 [11,13],aa 7 14]) <|
  .seq (.block 0 (.seq (.region [] [⟨none,[aa 19 7,av 20 .geq 19 0,aa 21 20]⟩,⟨(some (21,true)),[aa 22 2]⟩,⟨none,[bC 23 21 22,aa 18 23]⟩]) <|
  .cond (.tmp 18) (.seq (ae [aa 24 7,((some 25),.op (.arith .sub (.val (.val (.int .i64 (-1)))) (.tmp 24))),aa 6 25]) <|
  .ret) (.seq (ae [aa 27 7,av 28 .geq 27 0,aa 26 28]) <|
  .cond (.tmp 26) (ae [aa 29 0,aO 30 2 4,ca 31 140 [(.tmp 29),(.tmp 30),(.val (.val (.int .i64 6)))]]) (.seq (.region [] [⟨none,[aa 33 0,aZ 34 33,al 35 0 34,aO 36 4 35,al 37 0 4,ak 38 37,aD 39 152 [36,38],av 40 .geq 39 0,aa 41 40]⟩,⟨(some (41,false)),[al 42 0 4,ak 43 42,aD 44 192 [43]]⟩,⟨none,[bU 45 41 44,aa 46 45]⟩,⟨(some (46,false)),[al 47 0 4,ak 48 47,((some 49),.op (.hE .eql (.tmp 48) (.val (.val (.string ⟨#[101,114,114,111,114]⟩)))))]⟩,⟨none,[bU 50 46 49,aa 32 50]⟩]) <|
  .cond (.tmp 32) (.seq (ae [aa 51 0,aO 52 2 4,aD 53 223 [51,52],aa 6 53]) <|
  .ret) (ae [aa 15 0,aO 16 2 4,ca 17 140 [(.tmp 15),(.tmp 16),(.val (.val (.int .i64 6)))]]))))) <|
  .seq (ae [aA 6 0]) <|
  .ret,
  [.tmp 6],54⟩
theorem j5:aE Tryz.prog 186 [4]=some gm:=by kernel_rfl
def qX:DC :=
  .seq (.seq (ae [aa 6 5,al 7 1 2,ak 8 7,aK 9 8,aM 10 .lss 6 9]) <|
  .cond (.tmp 10) (.skip) (.exit 0)) <|
  .seq (.block 1 (.seq (ae [al 13 1 2,ak 14 13,aa 15 5,aL 16 1 14 15,ak 17 16,aa 18 1,((some 19),.op (.hE .eql (.tmp 17) (.tmp 18)))]) <|
  .cond (.tmp 19) (.seq (ae [aa 20 5,aa 4 20]) <|
  .ret) (.skip))) <|
  ae [aa 11 5,av 12 .add 11 1,aa 5 12]
def lC:DF:=⟨.seq (ae [cX 2 0,aA 4 0]) <|
  .seq (.seq (ae [aA 5 0]) <|
  .block 0 (.loop qX)) <|
  .seq (ae [aA 4 (-1)]) <|
  .ret,
  [.tmp 4],21⟩
theorem pX:aE Tryz.prog 139 [2]=some lC:=by kernel_rfl
def pQ:DC :=
  .seq (.seq (ae [aa 6 5,al 7 0 2,ak 8 7,aK 9 8,aM 10 .lss 6 9]) <|
  .cond (.tmp 10) (.skip) (.exit 0)) <|
  .seq (.block 1 (.seq (ae [al 13 0 2,ak 14 13,aa 15 5,aL 16 3 14 15,al 17 0 16,ak 18 17,aa 19 1,((some 20),.op (.hE .eql (.tmp 18) (.tmp 19)))]) <|
  .cond (.tmp 20) (.seq (ae [aa 21 5,aa 4 21]) <|
  .ret) (.skip))) <|
  ae [aa 11 5,av 12 .add 11 1,aa 5 12]
def kF:DF:=⟨.seq (ae [cX 2 0,aA 4 0]) <|
  .seq (.seq (ae [aA 5 0]) <|
  .block 0 (.loop pQ)) <|
  .seq (ae [aA 4 (-1)]) <|
  .ret,
  [.tmp 4],22⟩
theorem oT:aE Tryz.prog 152 [2]=some kF:=by kernel_rfl
def fA:DF:=⟨.seq (ae [cX 3 1,aA 4 0]) <|
  .seq (ae [aa 6 0,aZ 7 6,al 8 0 7,aO 9 4 8,al 10 0 3,ak 11 10,aD 12 152 [9,11],aa 5 12]) <|
  .seq (.seq (ae [aa 13 5,av 14 .geq 13 0]) <|
  .cond (.tmp 14) (.seq (ae [aa 15 5,aa 4 15]) <|
  .ret) (.skip)) <|
  .seq (.seq (ae [aa 16 0,aZ 17 16,al 18 0 17,al 19 0 18,ak 20 19,aK 21 20,av 22 .eql 21 24]) <|
  .cond (.tmp 22) (.seq (ae [aa 23 0,aO 24 2 3,ca 25 140 [(.tmp 23),(.tmp 24),(.val (.val (.int .i64 5)))]]) <|
  .seq (ae [aA 4 0]) <|
  .ret) (.skip)) <|
  .seq (.region [] [⟨none,[aa 26 0,aa 27 0,aZ 28 27,al 29 0 28,al 30 0 29,ak 31 30,al 32 0 3,ak 33 32,((some 34),.op (.build [(.val (.string ⟨#[]⟩)),(.val (.int .i64 0)),(.val (.int .i64 0))] [(0,1,(.tmp 33))])),((some 35),.op (.bg 1 3 [(.val (.string ⟨#[]⟩)),(.val (.int .i64 0)),(.val (.int .i64 0))] [(0,(.tmp 34))])),((some 36),.op (.app 3 32 (.tmp 31) (.tmp 35))),aZ 37 26,al 38 0 37,al 39 0 38,(none,.op (.store 1 (.tmp 39) (.tmp 36)))]⟩]) <|
  .seq (ae [aa 40 0,aZ 41 40,al 42 0 41,al 43 0 42,ak 44 43,aK 45 44,av 46 .sub 45 1,aa 4 46]) <|
  .ret,
  [.tmp 4],47⟩
theorem jd:aE Tryz.prog 223 [3]=some fA:=by kernel_rfl
def lz:DC :=
  .seq (.seq (.region [] [⟨none,[aa 60 7,al 61 1 5,ak 62 61,aK 63 62,aM 64 .lss 60 63,aa 65 64]⟩,⟨(some (65,true)),[aa 66 0,aZ 67 66,al 68 10 67,ak 69 68,av 70 .eql 69 0]⟩,⟨none,[bC 71 65 70]⟩]) <|
  .cond (.tmp 71) (.skip) (.exit 2)) <|
  .seq (.block 3 (ae [aa 74 0,al 75 0 5,ak 76 75,al 77 1 5,ak 78 77,aa 79 7,aL 80 2 78 79,aO 81 2 80,aD 82 185 [74,76,81]])) <|
  ae [aa 72 7,av 73 .add 72 1,aa 7 73]
def lj:DC :=
  .seq (.seq (.region [] [⟨none,[aa 8 4,aa 9 1,aK 10 9,aM 11 .lss 8 10,aa 12 11]⟩,⟨(some (12,true)),[aa 13 0,aZ 14 13,al 15 10 14,ak 16 15,av 17 .eql 16 0]⟩,⟨none,[bC 18 12 17]⟩]) <|
  .cond (.tmp 18) (.skip) (.exit 0)) <|
  .seq (.block 1 (.seq (ae [aa 21 1,aa 22 4,aL 23 2 21 22,aO 24 2 23,((some 5),.op (.alloc [(.val (.int .i64 0)),(.emp 1)])),(none,.op (.store 2 (.tmp 5) (.tmp 24)))]) <|
  .seq (.seq (.region [] [⟨none,[al 25 0 5,ak 26 25,av 27 .lss 26 3,aa 28 27]⟩,⟨(some (28,false)),[al 29 0 5,ak 30 29,av 31 .gtr 30 7]⟩,⟨none,[bU 32 28 31]⟩]) <|
  .cond (.tmp 32) (.seq (.region [] [⟨none,[((some 33),.op (.build [(.val (.string ⟨#[]⟩)),(.val (.complex .f64 0 0))] [])),((some 6),.op (.alloc [(.val (.string ⟨#[]⟩)),(.val (.complex .f64 0 0))])),(none,.op (.store 2 (.tmp 6) (.tmp 33)))]⟩]) <|
  .seq (.seq (ae [al 34 1 5,ak 35 34,aK 36 35,av 37 .gtr 36 0]) <|
  .cond (.tmp 37) (ae [al 38 1 5,ak 39 38,((some 40),.op (.idx 2 (.tmp 39) (.val (.val (.int .i64 0))))),aO 41 2 40,(none,.op (.store 2 (.tmp 6) (.tmp 41)))]) (.skip)) <|
  .seq (ae [aa 42 0,aO 43 2 6,ca 44 140 [(.tmp 42),(.tmp 43),(.val (.val (.int .i64 3)))]]) <|
  .ret) (.skip)) <|
  .seq (.seq (.region [] [⟨none,[al 45 0 5,ak 46 45,av 47 .neq 46 3,aa 48 47]⟩,⟨(some (48,true)),[al 49 0 5,ak 50 49,av 51 .neq 50 7]⟩,⟨none,[bC 52 48 51]⟩]) <|
  .cond (.tmp 52) (ae [aa 53 0,aZ 54 53,al 55 8 54,ak 56 55,av 57 .add 56 1,aZ 58 53,al 59 8 58,(none,.op (.store 1 (.tmp 59) (.tmp 57)))]) (.skip)) <|
  .seq (ae [aA 7 0]) <|
  .block 2 (.loop lz))) <|
  ae [aa 19 4,av 20 .add 19 1,aa 4 20]
def gq:DF:=⟨.seq (ae [aA 4 0]) <|
  .block 0 (.loop lj),
  [],83⟩
theorem k5:aE Tryz.prog 136 []=some gq:=by kernel_rfl
def fK:DF:=⟨.seq (ae [cX 5 2]) <|
  .block 0 (.seq (.region [] [⟨none,[al 63 0 5,ak 64 63,aD 65 151 [64],cF 66 65,aa 67 66]⟩,⟨(some (67,false)),[aa 68 1,av 69 .eql 68 7,aa 70 69]⟩,⟨(some (70,true)),[al 71 0 5,ak 72 71,aD 73 154 [72],cF 74 73]⟩,⟨(some (67,false)),[bC 75 70 74]⟩,⟨none,[bU 76 67 75,aa 62 76]⟩]) <|
  .cond (.tmp 62) (ae [aa 77 0,aO 78 2 5,ca 79 140 [(.tmp 77),(.tmp 78),(.val (.val (.int .i64 3)))]]) (.seq (ae [aa 81 1,av 82 .eql 81 7,aa 80 82]) <|
  .cond (.tmp 80) (.seq (.seq (ae [aa 83 0,aZ 84 83,al 85 7 84,ak 86 85]) <|
  .cond (.tmp 86) (ae [aa 87 0,aO 88 2 5,ca 89 140 [(.tmp 87),(.tmp 88),(.val (.val (.int .i64 7)))]]) (.skip)) <|
  ae [aa 90 0,aa 91 0,aO 92 2 5,aZ 93 90,al 94 5 93,(none,.op (.store 2 (.tmp 94) (.tmp 92))),aZ 95 91,al 96 7 95,(none,.op (.store 1 (.tmp 96) (.val (.val (.bool true)))))]) (.seq (ae [aa 98 1,av 99 .eql 98 3,aa 97 99]) <|
  .cond (.tmp 97) (.seq (.seq (ae [aa 100 0,aZ 101 100,al 102 4 101,ak 103 102,al 104 0 5,ak 105 104,aD 106 222 [103,105]]) <|
  .cond (.tmp 106) (ae [aa 107 0,aO 108 2 5,ca 109 140 [(.tmp 107),(.tmp 108),(.val (.val (.int .i64 7)))]]) (.skip)) <|
  .seq (.region [] [⟨none,[aa 110 0,aa 111 0,aZ 112 111,al 113 4 112,ak 114 113,al 115 0 5,ak 116 115,((some 117),.op (.bg 1 1 [(.val (.string ⟨#[]⟩))] [(0,(.tmp 116))])),((some 118),.op (.app 1 16 (.tmp 114) (.tmp 117))),aZ 119 110,al 120 4 119,(none,.op (.store 1 (.tmp 120) (.tmp 118)))]⟩]) <|
  ae [aa 121 0,aO 122 2 5,aD 123 223 [121,122]]) (.seq (ae [aa 7 0,aZ 8 7,al 9 0 8,aO 10 4 9,al 11 0 5,ak 12 11,aD 13 152 [10,12],aa 6 13]) <|
  .seq (.seq (.region [] [⟨none,[aa 14 6,av 15 .geq 14 0,aa 16 15]⟩,⟨(some (16,true)),[aa 17 0,aZ 18 17,al 19 0 18,al 20 0 19,ak 21 20,aa 22 6,aL 23 3 21 22,al 24 1 23,ak 25 24,av 26 .gtr 25 0]⟩,⟨none,[bC 27 16 26]⟩]) <|
  .cond (.tmp 27) (.seq (ae [aa 28 0,aO 29 2 5,ca 30 140 [(.tmp 28),(.tmp 29),(.val (.val (.int .i64 7)))]]) <|
  .ret) (.skip)) <|
  .seq (ae [aa 31 0,aO 32 2 5,aD 33 223 [31,32],aa 6 33]) <|
  .seq (ae [aa 34 0,aZ 35 34,al 36 10 35,ak 37 36,av 38 .eql 37 0]) <|
  .cond (.tmp 38) (ae [aa 39 0,aZ 40 39,al 41 0 40,al 42 0 41,ak 43 42,aa 44 6,aa 45 0,aZ 46 45,al 47 0 46,al 48 0 47,ak 49 48,aa 50 6,aa 51 0,aZ 52 51,al 53 8 52,ak 54 53,aa 55 1,av 56 .sub 55 4,av 57 .add 56 1,aL 58 3 43 44,al 59 1 58,(none,.op (.store 1 (.tmp 59) (.tmp 54))),aL 60 3 49 50,al 61 2 60,(none,.op (.store 1 (.tmp 61) (.tmp 57)))]) (.skip))))),
  [],124⟩
theorem jI:aE Tryz.prog 185 [5]=some fK:=by kernel_rfl
def qT:DC :=
  .seq (.seq (ae [aa 6 5,aa 7 0,aK 8 7,aM 9 .lss 6 8]) <|
  .cond (.tmp 9) (.skip) (.exit 0)) <|
  .seq (.block 1 (.seq (ae [aa 12 0,aa 13 5,aL 14 1 12 13,ak 15 14,aa 16 1,((some 17),.op (.hE .eql (.tmp 15) (.tmp 16)))]) <|
  .cond (.tmp 17) (.seq (ae [bd 4 true]) <|
  .ret) (.skip))) <|
  ae [aa 10 5,av 11 .add 10 1,aa 5 11]
def lD:DF:=⟨.seq (ae [bd 4 false]) <|
  .seq (.seq (ae [aA 5 0]) <|
  .block 0 (.loop qT)) <|
  .seq (ae [bd 4 false]) <|
  .ret,
  [.tmp 4],18⟩
theorem pJ:aE Tryz.prog 222 []=some lD:=by kernel_rfl
def lh:DC :=
  .seq (.seq (.region [] [⟨none,[aa 6 4,aa 7 1,aK 8 7,aM 9 .lss 6 8,aa 10 9]⟩,⟨(some (10,true)),[aa 11 0,aZ 12 11,al 13 10 12,ak 14 13,av 15 .eql 14 0]⟩,⟨none,[bC 16 10 15]⟩]) <|
  .cond (.tmp 16) (.skip) (.exit 0)) <|
  .seq (.block 1 (.seq (.region [] [⟨none,[aa 19 1,aa 20 4,aL 21 5 19 20,al 22 0 21,aO 23 2 22,((some 5),.op (.alloc [(.val (.string ⟨#[]⟩)),(.val (.complex .f64 0 0))])),(none,.op (.store 2 (.tmp 5) (.tmp 23)))]⟩]) <|
  .block 2 (.seq (ae [al 38 0 5,ak 39 38,aD 40 154 [39],cF 41 40,aa 37 41]) <|
  .cond (.tmp 37) (ae [aa 42 0,aO 43 2 5,ca 44 140 [(.tmp 42),(.tmp 43),(.val (.val (.int .i64 3)))]]) (.seq (ae [aa 46 0,aZ 47 46,al 48 0 47,aO 49 4 48,al 50 0 5,ak 51 50,aD 52 152 [49,51],av 53 .geq 52 0,aa 45 53]) <|
  .cond (.tmp 45) (ae [aa 54 0,aO 55 2 5,ca 56 140 [(.tmp 54),(.tmp 55),(.val (.val (.int .i64 7)))]]) (.seq (ae [aa 58 0,aZ 59 58,al 60 0 59,aO 61 4 60,al 62 0 5,ak 63 62,aD 64 139 [61,63],av 65 .geq 64 0,aa 57 65]) <|
  .cond (.tmp 57) (.skip) (.seq (ae [aa 67 0,aZ 68 67,al 69 0 68,al 70 1 69,ak 71 70,aK 72 71,av 73 .eql 72 16,aa 66 73]) <|
  .cond (.tmp 66) (ae [aa 74 0,aO 75 2 5,ca 76 140 [(.tmp 74),(.tmp 75),(.val (.val (.int .i64 5)))]]) (.region [] [⟨none,[aa 24 0,aa 25 0,aZ 26 25,al 27 0 26,al 28 1 27,ak 29 28,al 30 0 5,ak 31 30,((some 32),.op (.bg 1 1 [(.val (.string ⟨#[]⟩))] [(0,(.tmp 31))])),((some 33),.op (.app 1 16 (.tmp 29) (.tmp 32))),aZ 34 24,al 35 0 34,al 36 1 35,(none,.op (.store 1 (.tmp 36) (.tmp 33)))]⟩]))))))) <|
  ae [aa 17 4,av 18 .add 17 1,aa 4 18]
def gx:DF:=⟨.seq (ae [aA 4 0]) <|
  .block 0 (.loop lh),
  [],77⟩
theorem k6:aE Tryz.prog 137 []=some gx:=by kernel_rfl
def w7:List (FuncId × DF):=[(49,kP),(94,jX),(134,jo),(177,k9),(212,lE),(213,kE),(214,kJ),(215,jx),(232,jz),(178,mj),(216,mO),(179,lF),(194,jU),(193,jM),(192,iP),(217,iQ),(218,iW),(219,k8),(135,mf),(183,gg),(182,fL),(220,fY),(221,g8),(181,ga),(184,gn),(180,fM),(95,jV),(138,hD),(151,jT),(154,kB),(140,hO),(186,gm),(139,lC),(152,kF),(223,fA),(136,gq),(185,fK),(222,lD),(137,gx)]
theorem D2:pV Tryz.prog w7:=by
  intro p hp
  simp only[w7,List.mem_cons,List.not_mem_nil,or_false] at hp
  rcases hp with rfl | rfl | rfl | rfl | rfl | rfl | rfl | rfl | rfl | rfl | rfl | rfl | rfl | rfl | rfl | rfl | rfl | rfl | rfl | rfl | rfl | rfl | rfl | rfl | rfl | rfl | rfl | rfl | rfl | rfl | rfl | rfl | rfl | rfl | rfl | rfl | rfl | rfl | rfl
  · exact ⟨_,oQ⟩
  · exact ⟨_,oh⟩
  · exact ⟨_,mW⟩
  · exact ⟨_,oL⟩
  · exact ⟨_,qv⟩
  · exact ⟨_,oy⟩
  · exact ⟨_,pt⟩
  · exact ⟨_,mX⟩
  · exact ⟨_,mZ⟩
  · exact ⟨_,q5⟩
  · exact ⟨_,q0⟩
  · exact ⟨_,pD⟩
  · exact ⟨_,nT⟩
  · exact ⟨_,od⟩
  · exact ⟨_,mS⟩
  · exact ⟨_,mU⟩
  · exact ⟨_,mV⟩
  · exact ⟨_,pk⟩
  · exact ⟨_,qU⟩
  · exact ⟨_,j4⟩
  · exact ⟨_,jH⟩
  · exact ⟨_,j0⟩
  · exact ⟨_,lr⟩
  · exact ⟨_,kc⟩
  · exact ⟨_,ke⟩
  · exact ⟨_,jJ⟩
  · exact ⟨_,nV⟩
  · exact ⟨_,ln⟩
  · exact ⟨_,nS⟩
  · exact ⟨_,oG⟩
  · exact ⟨_,lx⟩
  · exact ⟨_,j5⟩
  · exact ⟨_,pX⟩
  · exact ⟨_,oT⟩
  · exact ⟨_,jd⟩
  · exact ⟨_,k5⟩
  · exact ⟨_,jI⟩
  · exact ⟨_,pJ⟩
  · exact ⟨_,k6⟩
def uA (l:List Int):V:=.aF (l.map fun x=>[gy x])
theorem EC (l:List Int):Tree (uA l):=dZ _ _ fun x _ v hv=>by simp at hv; subst hv; exact .val _
def lZ (g:ao):V:=.bc [.agg (aR g),.val (.complex .f64 0 0),gi 0]
theorem B5 {l:List Int} {g:ao} (h:sQ Tryz.prog w7 (fun _ _ _=>none) 49 [uA l]=some (lZ g)):cJ Tryz.prog 49 [uA l] (lZ g) :=
  qx mixed D2 (Ij _) (by intro v hv; simp at hv; subst hv; exact EC _) h
abbrev cB (κ:Type):=List (κ × V × Nat)
def dd {κ:Type} (key:κ→Value) (m:cB κ):List (V × V × Nat):=m.map fun x=>(.val (key x.1),x.2.1,x.2.2)
def getM {κ:Type} [BEq κ] (m:cB κ) (k:κ):Option V:=(m.find? fun x=>k == x.1).map (·.2.1)
def cK {κ:Type} [BEq κ] (k:κ) (v:V) (c:Nat):cB κ→cB κ
  | []=>[(k,v,c)]
  | x :: r=>if k == x.1 then (k,v,x.2.2) :: r else x :: cK k v c r
structure wN {κ:Type} [BEq κ] (P:Program) (kt:TypeId) (key:κ→Value):Prop where
  ty:∃ d,P.underlying kt=some d∧(∀ a b,Instr.sameNow d (key a) (key b)=some (a == b))∧(∀ a e,bb P (Instr.checkKey e 10000 kt (key a))=some ())
  bits:∀ a b,(a == b)=true→Instr.sameBits 10000 (key b) (key a)=true
theorem oR {κ:Type} (key:κ→Value):∀ m:cB κ,fD (dd key m)=some (m.map fun x=>{ key:=key x.1,val:=.nilFunc,born:=x.2.2 })
  | []=>rfl
  | x :: r=>by
    have:=oR key r
    simp only[dd] at this
    simp[dd,fD,bR,this]
def gA {κ:Type} [BEq κ] (k:κ):cB κ→Option Nat
  | []=>none
  | x :: r=>if k == x.1 then some 0 else (gA k r).map (·+1)
theorem tQ {κ:Type} [BEq κ] {key:κ→Value} {d:TypeDesc} (h:∀ a b,Instr.sameNow d (key a) (key b)=some (a == b)) (k:κ):∀ (m:cB κ) (i:Nat),
    Instr.findNow d (key k) (m.map fun x=>{ key:=key x.1,val:=.nilFunc,born:=x.2.2 }) i=some ((gA k m).map fun j=>(i+j,.nilFunc))
  | [],i=>rfl
  | x :: r,i=>by
    simp only[List.map_cons,Instr.findNow,h,gA]
    cases hk:k == x.1 with
    | true=>simp
    | false =>
      simp only[tQ h k r (i+1),Bool.false_eq_true,if_false,Option.map_map]
      congr 2
      funext j
      simp only[Function.comp]
      congr 1
      omega
theorem sH {κ:Type} [BEq κ] {P:Program} {kt:TypeId} {key:κ→Value} (h:wN P kt key) (k:κ) (e:Bool) (m:cB κ):jn P kt (.val (key k)) e (dd key m)=some (gA k m):=by
  obtain ⟨d,hd,hn,hc⟩:=h.ty
  have hu:bb P (underlying kt)=some d:=c3 hd
  simp only[jn,bR,oR,aS,hc,Option.bind_some]
  have:bb P (Instr.findKey kt (key k) (m.map fun x=>{ key:=key x.1,val:=.nilFunc,born:=x.2.2 }))=some ((gA k m).map fun j=>(0+j,.nilFunc)):=by
    unfold Instr.findKey
    rw[aS,hu,Option.bind_some,tQ hn]
    rfl
  rw[this]
  cases gA k m with
  | none=>rfl
  | some j=>simp
theorem DY {P:Program} {kt:TypeId} {d:TypeDesc} (h:P.underlying kt=some d) (hd:match d with | .int _ | .string | .bool=>True | _=>False) (e:Bool) (n:Nat) (v:Value):bb P (Instr.checkKey e (n+1) kt v)=some ():=by
  unfold Instr.checkKey
  rw[aS,c3 h,Option.bind_some]
  cases d <;> first | exact hd.elim | rfl
theorem kY {P:Program} {kt:TypeId} (k:IntKind) (h:P.underlying kt=some (.int k)):wN P kt (Value.int k) where
  ty:=⟨_,h,fun a b=>by simp[Instr.sameNow],fun a e=>DY h trivial e 9999 _⟩
  bits:=fun a b hab=>by
    have:a=b:=by simpa using hab
    subst this
    simp[Instr.sameBits]
theorem qg {κ:Type} [BEq κ] {key:κ→Value} (k:κ):∀ m:cB κ,match gA k m with
    | some i=>∃ x,m[i]?=some x∧(k == x.1)=true∧getM m k=some x.2.1∧(dd key m)[i]?=some (.val (key x.1),x.2.1,x.2.2)∧∀ v c,(dd key m).set i (.val (key k),v,x.2.2)=dd key (cK k v c m)∧(cK k v c m).length=m.length
    | none=>getM m k=none∧∀ v c,dd key m ++ [(.val (key k),v,c)]=dd key (cK k v c m)∧(cK k v c m).length=m.length+1
  | []=>⟨rfl,fun v c=>⟨rfl,rfl⟩⟩
  | x :: r=>by
    have ih:=qg (key:=key) k r
    simp only[gA]
    cases hk:k == x.1 with
    | true=>exact ⟨x,rfl,hk,by simp[getM,hk],rfl,fun v c=>by simp[cK,hk,dd]⟩
    | false =>
      simp only[Bool.false_eq_true,if_false]
      cases hi:gA k r with
      | some i =>
        rw[hi] at ih
        obtain ⟨y,h1,h2,h3,h4,h5⟩:=ih
        refine ⟨y,by simpa using h1,h2,by simpa [getM,hk] using h3,by simpa [dd] using h4,fun v c=>?_⟩
        obtain ⟨g1,g2⟩:=h5 v c
        exact ⟨by simp only[dd] at g1 ⊢; simp[cK,hk,g1],by simp[cK,hk,g2]⟩
      | none =>
        rw[hi] at ih
        refine ⟨by simpa [getM,hk] using ih.1,fun v c=>?_⟩
        obtain ⟨g1,g2⟩:=ih.2 v c
        exact ⟨by simp only[dd] at g1 ⊢; simp[cK,hk,g1],by simp[cK,hk,g2]⟩
section
variable {P:Program} {T:Env} {H:View} {κ:Type} [BEq κ] {key:κ→Value} {kt et t ty:TypeId}
theorem zf {K:V→View→Prop} {w:bS (T,H,K)} {x i:Operand} {z:V} {id c:Nat} {m:cB κ} {k:κ} (hm:dC P t=some (kt,et)) (hz:zeroV P et=some z) (hk:wN P kt key)
    (hx:ev T x=.mp id) (hi:ev T i=.val (key k)) (hH:H id=.map (dd key m) c) (h:K ((getM m k).getD z) H):sX P (.lookup t x i false) ty T H K w:=by
  intro n _
  have hf:=sH hk k (dd key m).isEmpty m
  have hg:=qg (key:=key) k m
  refine ⟨(getM m k).getD z,.none,[id],?_,h⟩
  simp only[sI,bw,oper,dD,hm,hz,hx,hi,hH,hf]
  cases hj:gA k m with
  | some j =>
    rw[hj] at hg
    obtain ⟨y,h1,h2,h3,h4,_⟩:=hg
    simp[h4,h3]
  | none =>
    rw[hj] at hg
    simp[hg.1]
theorem J9 {K:V→View→Prop} {w:bS (T,H,K)} {x i:Operand} {z:V} {id c:Nat} {m:cB κ} {k:κ} (hm:dC P t=some (kt,et)) (hz:zeroV P et=some z) (hk:wN P kt key)
    (hx:ev T x=.mp id) (hi:ev T i=.val (key k)) (hH:H id=.map (dd key m) c) (h:K (.bc [(getM m k).getD z,.val (.bool (getM m k).isSome)]) H):sX P (.lookup t x i true) ty T H K w:=by
  intro n _
  have hf:=sH hk k (dd key m).isEmpty m
  have hg:=qg (key:=key) k m
  refine ⟨_,.none,[id],?_,h⟩
  simp only[sI,bw,oper,dD,hm,hz,hx,hi,hH,hf]
  cases hj:gA k m with
  | some j =>
    rw[hj] at hg
    obtain ⟨y,h1,h2,h3,h4,_⟩:=hg
    simp[h4,h3]
  | none =>
    rw[hj] at hg
    simp[hg.1]
theorem GQ (hk:wN P kt key) (k k':κ) (h:(k == k')=true):sameKey (.val (key k')) (.val (key k))=true:=by
  simp only[sameKey,bR]; exact hk.bits _ _ h
theorem Ac {K:V→View→Prop} {w:bS (T,H,K)} {x i y:Operand} {id c:Nat} {m:cB κ} {k:κ} {v:V} (hm:dC P t=some (kt,et)) (hk:wN P kt key)
    (hx:ev T x=.mp id) (hi:ev T i=.val (key k)) (hy:ev T y=v) (hH:H id=.map (dd key m) c)
    (h:∀ c',K .any (H.set id (.map (dd key (cK k v c m)) c'))):sX P (.mapUpdate t x i y) ty T H K w:=by
  intro n _
  have hf:=sH hk k false m
  have hg:=qg (key:=key) k m
  cases hj:gA k m with
  | some j =>
    rw[hj] at hg hf
    obtain ⟨z,h1,h2,h3,h4,h5⟩:=hg
    refine ⟨.any,.dW id (.map ((dd key m).set j (.val (key k),v,z.2.2)) c),[id],?_,?_⟩
    · simp only[sI,bw,oper,dK,hm,hx,hi,hy,hH,hf,h4,GQ hk k z.1 h2,if_true]
    · rw[(h5 v c).1]; exact h c
  | none =>
    rw[hj] at hg hf
    refine ⟨.any,.dW id (.map (dd key m ++ [(.val (key k),v,c)]) (c+1)),[id],?_,?_⟩
    · simp only[sI,bw,oper,dK,hm,hx,hi,hy,hH,hf]
    · rw[(hg.2 v c).1]; exact h (c+1)
omit [BEq κ] in
theorem Jn {K:V→View→Prop} {w:bS (T,H,K)} {x:Operand} {id c:Nat} {m:cB κ} (hm:dC P t=some (kt,et)) (hx:ev T x=.mp id) (hH:H id=.map (dd key m) c) (h:K (an m.length) H) :
    sX P (.call { callee:=.builtin .len,args:=#[x],argTypes:=#[t] }) ty T H K w:=by
  intro n _
  have hu:∃ a b,P.underlying t=some (.map a b):=by
    unfold dC at hm
    split at hm
    · rename_i a b h1; exact ⟨a,b,h1⟩
    · simp at hm
  obtain ⟨a,b,hu⟩:=hu
  refine ⟨an m.length,.none,[id],?_,h⟩
  have hl:(dd key m).length=m.length:=by simp[dd]
  simp only[sI,bw,oper,List.size_toArray,List.length_cons,List.length_nil,ov,hu,hx,hH,hl]
  simp[hu,hx,hH,hl,ov]
end
theorem zY {κ:Type} [BEq κ] [LawfulBEq κ] (k k':κ) (v:V) (c:Nat):∀ m:cB κ,getM (cK k v c m) k'=if k' == k then some v else getM m k'
  | []=>by
    by_cases h:k'=k
    · subst h; simp[cK,getM]
    · simp[cK,getM,h]
  | x :: r=>by
    have ih:=zY k k' v c r
    simp only[cK]
    by_cases hk:k=x.1
    · by_cases h:k'=k
      · subst h; simp[hk,getM]
      · have:¬ k'=x.1:=fun e=>h (e.trans hk.symm)
        simp[hk,getM,this]
    · simp only[beq_iff_eq,hk,if_false]
      by_cases h:k'=x.1
      · have:¬ k'=k:=fun e=>hk (e.symm.trans h)
        simp[getM,h]
        subst h
        simp[this]
      · simp only[getM,List.find?_cons,beq_eq_false_iff_ne.2 h] at ih ⊢
        exact ih
def cE {κ β:Type} [BEq κ] (a:List (κ × β)) (k:κ):Option β:=(a.find? fun x=>k == x.1).map (·.2)
def fW {κ β:Type} [BEq κ] (k:κ) (v:β):List (κ × β)→List (κ × β)
  | []=>[(k,v)]
  | x :: r=>if k == x.1 then (k,v) :: r else x :: fW k v r
def jb {κ β:Type} (encV:β→V):List (κ × β)→cB κ→Prop
  | [],[]=>True
  | x :: a,y :: m=>y.1=x.1∧y.2.1=encV x.2∧jb encV a m
  | _,_=>False
theorem jb.get {κ β:Type} [BEq κ] {encV:β→V} (k:κ):∀ {a:List (κ × β)} {m:cB κ},jb encV a m→getM m k=(cE a k).map encV
  | [],[],_=>rfl
  | x :: a,y :: m,⟨h1,h2,h3⟩=>by
    have ih:=jb.get k h3
    simp only[getM,cE,List.find?_cons,h1] at ih ⊢
    cases k == x.1 with
    | true=>simp[h2]
    | false=>simpa using ih
theorem jb.put {κ β:Type} [BEq κ] {encV:β→V} (k:κ) (v:β) (c:Nat):∀ {a:List (κ × β)} {m:cB κ},jb encV a m→jb encV (fW k v a) (cK k (encV v) c m)
  | [],[],_=>⟨rfl,rfl,trivial⟩
  | x :: a,y :: m,⟨h1,h2,h3⟩=>by
    have ih:=jb.put k v c h3
    simp only[fW,cK,h1]
    cases k == x.1 with
    | true=>exact ⟨rfl,rfl,h3⟩
    | false=>exact ⟨h1,h2,ih⟩
theorem jb.len {κ β:Type} {encV:β→V} : ∀ {a:List (κ × β)} {m:cB κ},jb encV a m→m.length=a.length
  | [],[],_=>rfl
  | x :: a,y :: m,⟨_,_,h3⟩=>by simp[jb.len h3]
theorem Az {κ β:Type} [BEq κ] [LawfulBEq κ] (k k':κ) (v:β):∀ a:List (κ × β),cE (fW k v a) k'=if k' == k then some v else cE a k'
  | []=>by
    by_cases h:k'=k
    · subst h; simp[fW,cE]
    · simp[fW,cE,h]
  | x :: r=>by
    have ih:=Az k k' v r
    simp only[fW]
    by_cases hk:k=x.1
    · by_cases h:k'=k
      · subst h; simp[hk,cE]
      · have:¬ k'=x.1:=fun e=>h (e.trans hk.symm)
        simp[hk,cE,this]
    · simp only[beq_iff_eq,hk,if_false]
      by_cases h:k'=x.1
      · have:¬ k'=k:=fun e=>hk (e.symm.trans h)
        simp[cE,h]
        subst h
        simp[this]
      · simp only[cE,List.find?_cons,beq_eq_false_iff_ne.2 h] at ih ⊢
        exact ih
def CS (n k:Nat) (J:Nat→Env→View→Prop) (T:Env) (H:View):Prop:=∃ i,i+k=n∧J i T H
theorem cH.up {P:Program} {T:Env} {H:View} {c:SC} {Q:Exit→Env→View→Prop} {v:bS (T,H,Q)} (n:Nat) (J:Nat→Env→View→Prop) (h0:J 0 T H)
    (hs:∀ i k T H,i+k=n→J i T H→wS P c T H fun e T' H'=>tu e (∃ k',k' < k∧CS n k' J T' H') (Q e T' H')):cH P c T H Q v :=
  cH.intro (fun k T H=>CS n k J T H) n ⟨0,by omega,h0⟩ fun k T H ⟨i,hk,hj⟩=>hs i k T H hk hj
theorem bO {n i k:Nat} {J:Nat→Env→View→Prop} {T:Env} {H:View} (hk:i+k=n) (hlt:i < n) (hJ:J (i+1) T H):∃ k',k' < k∧CS n k' J T H:=⟨k - 1,by omega,i+1,by omega,hJ⟩
end Gv
