/-
  Part 7 of the proof: what the machine does and what the functions answer.
  Conditions: those that each lemma names.
-/
import Derived.Test.YtihmlbdfcmfbdaaGreatSGzA3F
set_option linter.unusedSimpArgs false
set_option linter.unusedVariables false
set_option maxRecDepth 100000
namespace Gv
open Go Go.Proofs
def lg:DF:=⟨.seq (ah [((some 2),.op (.alloc [(.emp 1),(.emp 1),(.emp 1),(.val (.int .i64 0))])),((some 3),.op (.bc (.val (.val (.complex .f64 0 0))))),aA 4 0]) <|
  .seq (ah [aa 9 0,aD 10 94 [9],aa 8 10,cr 11 0 8,cr 12 1 8,cr 13 2 8,((some 5),.op (.alloc [(.emp 1),(.emp 1)])),(none,.op (.store 2 (.tmp 5) (.tmp 11))),aa 6 12,aa 7 13]) <|
  .seq (.seq (ah [aa 14 7,aw 15 .neq 14 0]) <|
  .cond (.tmp 15) (.seq (ah [((some 16),.op (.build [(.emp 1),(.emp 1),(.emp 1),(.val (.int .i64 0))] [])),aa 17 6,aa 18 7,(none,.op (.store 4 (.tmp 2) (.tmp 16))),aa 3 17,aa 4 18]) <|
  .ret) (.skip)) <|
  .seq (ah [aO 19 2 5,aD 20 95 [19],cr 21 0 20,cr 22 1 20,cr 23 2 20,(none,.op (.store 4 (.tmp 2) (.tmp 21))),aa 3 22,aa 4 23]) <|
  .ret,
  [.cell 2 (some 4),.tmp 3,.tmp 4],24⟩
theorem oE:aF Tryz.prog 49 []=some lg:=by kernel_rfl
def jT:DF:=⟨.seq (ah [((some 2),.op (.alloc [(.emp 1),(.emp 1)])),((some 3),.op (.bc (.val (.val (.complex .f64 0 0))))),aA 4 0]) <|
  .seq (ah [aa 9 0,aD 10 134 [9],aa 8 10,cr 11 0 8,cr 12 1 8,cr 13 2 8,aa 5 11,aa 6 12,aa 7 13]) <|
  .seq (.seq (ah [aa 14 7,aw 15 .neq 14 0]) <|
  .cond (.tmp 15) (.seq (ah [((some 16),.op (.build [(.emp 1),(.emp 1)] [])),aa 17 6,aa 18 7,(none,.op (.store 2 (.tmp 2) (.tmp 16))),aa 3 17,aa 4 18]) <|
  .ret) (.skip)) <|
  .seq (ah [aa 19 5,aa 20 6,aD 21 135 [19,20],cr 22 0 21,cr 23 1 21,cr 24 2 21,(none,.op (.store 2 (.tmp 2) (.tmp 22))),aa 3 23,aa 4 24]) <|
  .ret,
  [.cell 2 (some 2),.tmp 3,.tmp 4],25⟩
theorem nO:aF Tryz.prog 94 []=some jT:=by kernel_rfl
def nW:DC :=
  .seq (.seq (.region [] [⟨none,[aa 16 6,aa 17 0,aR 18 17,aQ 19 .lss 16 18,aa 20 19]⟩,⟨(some (20,true)),[aa 21 7,aw 22 .lss 21 2]⟩,⟨none,[bq 23 20 22]⟩]) <|
  .cond (.tmp 23) (.skip) (.exit 0)) <|
  .block 1 (.seq (ah [aa 25 0,aa 26 6,aD 27 177 [25,26],aa 24 27,cr 28 0 24,cr 29 1 24,aa 8 28,aa 9 29]) <|
  .seq (.seq (ah [aa 30 8,aw 31 .lss 30 0]) <|
  .cond (.tmp 31) (.seq (ah [aa 32 0,aa 33 6,aD 34 178 [32,33],((some 2),.op (.bc (.val (.emp 1)))),aa 3 34,aA 4 4]) <|
  .ret) (.skip)) <|
  .seq (.seq (ah [aa 35 9]) <|
  .cond (.tmp 35) (.seq (ah [aa 36 8,aa 6 36]) <|
  .exit 1) (.skip)) <|
  .seq (.region [] [⟨none,[aa 38 0,aa 39 6,aD 40 179 [38,39],aa 37 40,cr 41 0 37,cr 42 1 37,cr 43 2 37,((some 10),.op (.alloc [(.val (.int .i64 0)),(.val (.string ⟨#[]⟩)),(.val (.complex .f64 0 0))])),(none,.op (.store 3 (.tmp 10) (.tmp 41))),aa 11 42,aa 12 43]⟩]) <|
  .seq (.seq (ah [aa 44 12,aw 45 .neq 44 0]) <|
  .cond (.tmp 45) (.seq (ah [an 46 2 10,ar 47 46,aa 48 12,((some 2),.op (.bc (.val (.emp 1)))),aa 3 47,aa 4 48]) <|
  .ret) (.skip)) <|
  .seq (.seq (ah [an 49 0 10,ar 50 49,aw 51 .eql 50 9]) <|
  .cond (.tmp 51) (ah [aa 52 7,aw 53 .add 52 1,aa 7 53]) (.skip)) <|
  .region [] [⟨none,[aa 54 5,aO 55 3 10,((some 56),.op (.bz 1 3 [(.val (.int .i64 0)),(.val (.string ⟨#[]⟩)),(.val (.complex .f64 0 0))] [(0,(.tmp 55))])),((some 57),.op (.app 3 40 (.tmp 54) (.tmp 56))),aa 58 11,aa 5 57,aa 6 58]⟩])
def jo:DF:=⟨.seq (ah [((some 2),.op (.bc (.val (.emp 1)))),((some 3),.op (.bc (.val (.val (.complex .f64 0 0))))),aA 4 0]) <|
  .seq (.seq (ah [aa 13 0,aR 14 13,aw 15 .gtr 14 4000]) <|
  .cond (.tmp 15) (.seq (ah [((some 2),.op (.bc (.val (.emp 1)))),((some 3),.op (.bc (.val (.val (.complex .f64 0 0))))),aA 4 5]) <|
  .ret) (.skip)) <|
  .seq (ah [((some 5),.op (.bc (.val (.emp 1))))]) <|
  .seq (ah [aA 6 0,aA 7 0]) <|
  .seq (.block 0 (.loop nW)) <|
  .seq (ah [aa 59 5,aa 60 0,aa 61 0,aR 62 61,aD 63 178 [60,62],aa 2 59,aa 3 63,aA 4 0]) <|
  .ret,
  [.tmp 2,.tmp 3,.tmp 4],64⟩
theorem mW:aF Tryz.prog 134 []=some jo:=by kernel_rfl
def lh:DF:=⟨.seq (ah [aA 4 0,aY 5 false]) <|
  .seq (.block 0 (.seq (.region [] [⟨none,[aa 7 0,aa 8 1,ba 9 1 7 8,ar 10 9,((some 11),.op (.arith .eql (.tmp 10) (.val (.val (.int .u8 32))))),aa 12 11]⟩,⟨(some (12,false)),[aa 13 0,aa 14 1,ba 15 1 13 14,ar 16 15,((some 17),.op (.arith .eql (.tmp 16) (.val (.val (.int .u8 9)))))]⟩,⟨none,[bV 18 12 17,aa 19 18]⟩,⟨(some (19,false)),[aa 20 0,aa 21 1,ba 22 1 20 21,ar 23 22,((some 24),.op (.arith .eql (.tmp 23) (.val (.val (.int .u8 10)))))]⟩,⟨none,[bV 25 19 24,aa 26 25]⟩,⟨(some (26,false)),[aa 27 0,aa 28 1,ba 29 1 27 28,ar 30 29,((some 31),.op (.arith .eql (.tmp 30) (.val (.val (.int .u8 13)))))]⟩,⟨none,[bV 32 26 31,aa 6 32]⟩]) <|
  .cond (.tmp 6) (.seq (ah [aa 33 1,aw 34 .add 33 1,aa 4 34,aY 5 true]) <|
  .ret) (.seq (.region [] [⟨none,[aa 36 0,aa 37 1,cn 38 212 [(.tmp 36),(.tmp 37),(.val (.val (.string ⟨#[47,42]⟩)))],aa 35 38]⟩]) <|
  .cond (.tmp 35) (.seq (.region [] [⟨none,[aa 39 0,aa 40 1,aw 41 .add 40 2,cn 42 213 [(.tmp 39),(.tmp 41),(.val (.val (.string ⟨#[42,47]⟩)))],aa 4 42,aY 5 true]⟩]) <|
  .ret) (.seq (.region [] [⟨none,[aa 44 0,aa 45 1,cn 46 212 [(.tmp 44),(.tmp 45),(.val (.val (.string ⟨#[47,47]⟩)))],aa 43 46]⟩]) <|
  .cond (.tmp 43) (.seq (ah [aa 47 0,aa 48 1,aD 49 214 [47,48],aa 4 49,aY 5 true]) <|
  .ret) (.seq (.region [] [⟨none,[aa 51 0,aa 52 1,cn 53 212 [(.tmp 51),(.tmp 52),(.val (.val (.string ⟨#[37,123]⟩)))],aa 50 53]⟩]) <|
  .cond (.tmp 50) (.seq (.region [] [⟨none,[aa 54 0,aa 55 1,aw 56 .add 55 2,cn 57 213 [(.tmp 54),(.tmp 56),(.val (.val (.string ⟨#[37,125]⟩)))],aa 4 57,aY 5 true]⟩]) <|
  .ret) (.seq (ah [aa 59 0,aa 60 1,ba 61 1 59 60,ar 62 61,((some 63),.op (.arith .eql (.tmp 62) (.val (.val (.int .u8 60))))),aa 58 63]) <|
  .cond (.tmp 58) (.seq (.region [] [⟨none,[aa 64 0,aa 65 0,aa 66 1,aD 67 214 [65,66],((some 68),.op (.slice 1 (.tmp 64) none (some (.tmp 67)))),aa 69 1,aw 70 .add 69 1,cn 71 213 [(.tmp 68),(.tmp 70),(.val (.val (.string ⟨#[62]⟩)))],aa 4 71,aY 5 true]⟩]) <|
  .ret) (.seq (ah [aa 73 0,aa 74 1,ba 75 1 73 74,ar 76 75,((some 77),.op (.arith .eql (.tmp 76) (.val (.val (.int .u8 123))))),aa 72 77]) <|
  .cond (.tmp 72) (.seq (ah [aa 78 0,aa 79 1,aD 80 215 [78,79],aa 4 80,aY 5 true]) <|
  .ret) (.skip)))))))) <|
  .seq (ah [aa 81 1,aa 4 81,aY 5 false]) <|
  .ret,
  [.tmp 4,.tmp 5],82⟩
theorem oz:aF Tryz.prog 177 []=some lh:=by kernel_rfl
def lI:DF:=⟨.seq (ah [aY 6 false]) <|
  .seq (.region [] [⟨none,[aa 7 1,aa 8 2,((some 9),.op (.ik (.tmp 8))),aQ 10 .add 7 9,aa 11 0,aR 12 11,aQ 13 .leq 10 12,aa 14 13]⟩,⟨(some (14,true)),[aa 15 0,aa 16 1,aa 17 1,aa 18 2,((some 19),.op (.ik (.tmp 18))),aQ 20 .add 17 19,((some 21),.op (.slice 1 (.tmp 15) (some (.tmp 16)) (some (.tmp 20)))),((some 22),.op (.old (.convert 91 9 (.tmp 21)) 9)),aa 23 2,((some 24),.op (.hZ .eql (.tmp 22) (.tmp 23)))]⟩,⟨none,[bq 25 14 24,aa 6 25]⟩]) <|
  .ret,
  [.tmp 6],26⟩
theorem pt:aF Tryz.prog 212 []=some lI:=by kernel_rfl
def pG:DC :=
  .seq (.seq (ah [aa 7 1,aa 8 0,aR 9 8,aQ 10 .lss 7 9]) <|
  .cond (.tmp 10) (.skip) (.exit 0)) <|
  .block 1 (.seq (.seq (ah [aa 11 0,aa 12 1,aa 13 2,aD 14 212 [11,12,13]]) <|
  .cond (.tmp 14) (.seq (ah [aa 15 1,aa 16 2,((some 17),.op (.ik (.tmp 16))),aQ 18 .add 15 17,aa 6 18]) <|
  .ret) (.skip)) <|
  ah [aa 19 1,aw 20 .add 19 1,aa 1 20])
def kL:DF:=⟨.seq (ah [aA 6 0]) <|
  .seq (.block 0 (.loop pG)) <|
  .seq (ah [aA 6 (-1)]) <|
  .ret,
  [.tmp 6],21⟩
theorem ov:aF Tryz.prog 213 []=some kL:=by kernel_rfl
def pk:DC :=
  .seq (.seq (.region [] [⟨none,[aa 5 1,aa 6 0,aR 7 6,aQ 8 .lss 5 7,aa 9 8]⟩,⟨(some (9,true)),[aa 10 0,aa 11 1,ba 12 1 10 11,ar 13 12,((some 14),.op (.arith .neq (.tmp 13) (.val (.val (.int .u8 10)))))]⟩,⟨none,[bq 15 9 14]⟩]) <|
  .cond (.tmp 15) (.skip) (.exit 0)) <|
  .block 1 (ah [aa 16 1,aw 17 .add 16 1,aa 1 17])
def kV:DF:=⟨.seq (ah [aA 4 0]) <|
  .seq (.block 0 (.loop pk)) <|
  .seq (ah [aa 18 1,aa 4 18]) <|
  .ret,
  [.tmp 4],19⟩
theorem oI:aF Tryz.prog 214 []=some kV:=by kernel_rfl
def nY:DC :=
  .seq (.seq (.region [] [⟨none,[aa 6 1,aw 7 .geq 6 0,aa 8 7]⟩,⟨(some (8,true)),[aa 9 1,aa 10 0,aR 11 10,aQ 12 .lss 9 11]⟩,⟨none,[bq 13 8 12]⟩]) <|
  .cond (.tmp 13) (.skip) (.exit 0)) <|
  .block 1 (.seq (.seq (ah [aa 14 0,aa 15 1,ba 16 1 14 15,ar 17 16]) <|
  .block 2 (.seq (ah [((some 21),.op (.arith .eql (.tmp 17) (.val (.val (.int .u8 123))))),aa 20 21]) <|
  .cond (.tmp 20) (.seq (ah [aa 22 5,aw 23 .add 22 1,aa 5 23]) <|
  ah [aa 24 1,aw 25 .add 24 1,aa 1 25]) (.seq (ah [((some 27),.op (.arith .eql (.tmp 17) (.val (.val (.int .u8 125))))),aa 26 27]) <|
  .cond (.tmp 26) (.seq (ah [aa 28 5,aw 29 .sub 28 1,aa 5 29]) <|
  ah [aa 30 1,aw 31 .add 30 1,aa 1 31]) (.seq (.seq (ah [((some 33),.op (.arith .eql (.tmp 17) (.val (.val (.int .u8 39))))),aa 32 33]) <|
  .cond (.tmp 32) (.skip) (ah [((some 34),.op (.arith .eql (.tmp 17) (.val (.val (.int .u8 34))))),aa 32 34])) <|
  .cond (.tmp 32) (ah [aa 35 0,aa 36 1,aD 37 232 [35,36],aa 1 37]) (ah [aa 18 1,aw 19 .add 18 1,aa 1 19]))))) <|
  .seq (.region [] [⟨none,[aa 38 5,aw 39 .eql 38 0,aa 40 39]⟩,⟨(some (40,true)),[aa 41 1,aw 42 .geq 41 0]⟩,⟨none,[bq 43 40 42]⟩]) <|
  .cond (.tmp 43) (.seq (ah [aa 44 1,aa 4 44]) <|
  .ret) (.skip))
def jj:DF:=⟨.seq (ah [aA 4 0]) <|
  .seq (ah [aA 5 0]) <|
  .seq (.block 0 (.loop nY)) <|
  .seq (ah [aA 4 (-1)]) <|
  .ret,
  [.tmp 4],45⟩
theorem mV:aF Tryz.prog 215 []=some jj:=by kernel_rfl
def oo:DC :=
  .seq (.seq (ah [aa 12 1,aa 13 0,aR 14 13,aQ 15 .lss 12 14]) <|
  .cond (.tmp 15) (.skip) (.exit 0)) <|
  .block 1 (.seq (.seq (ah [aa 16 0,aa 17 1,ba 18 1 16 17,ar 19 18,aa 20 5,aQ 21 .eql 19 20]) <|
  .cond (.tmp 21) (.seq (ah [aa 22 1,aw 23 .add 22 1,aa 4 23]) <|
  .ret) (.skip)) <|
  .seq (.seq (ah [aa 24 0,aa 25 1,ba 26 1 24 25,ar 27 26,((some 28),.op (.arith .eql (.tmp 27) (.val (.val (.int .u8 92)))))]) <|
  .cond (.tmp 28) (ah [aa 29 1,aw 30 .add 29 1,aa 1 30]) (.skip)) <|
  ah [aa 31 1,aw 32 .add 31 1,aa 1 32])
def jv:DF:=⟨.seq (ah [aA 4 0]) <|
  .seq (ah [aa 6 0,aa 7 1,ba 8 1 6 7,ar 9 8,aa 5 9]) <|
  .seq (ah [aa 10 1,aw 11 .add 10 1,aa 1 11]) <|
  .seq (.block 0 (.loop oo)) <|
  .seq (ah [aA 4 (-1)]) <|
  .ret,
  [.tmp 4],33⟩
theorem mX:aF Tryz.prog 232 []=some jv:=by kernel_rfl
def rb:DC :=
  .seq (.seq (ah [aa 16 7,aa 17 1,aQ 18 .lss 16 17]) <|
  .cond (.tmp 18) (.skip) (.exit 0)) <|
  .seq (.block 1 (.seq (ah [aa 21 6,aw 22 .add 21 1,aa 6 22]) <|
  .seq (ah [aa 23 0,aa 24 7,ba 25 1 23 24,ar 26 25,((some 27),.op (.arith .eql (.tmp 26) (.val (.val (.int .u8 10)))))]) <|
  .cond (.tmp 27) (ah [aa 28 5,aw 29 .add 28 1,aa 5 29,aA 6 1]) (.skip))) <|
  ah [aa 19 7,aw 20 .add 19 1,aa 7 20]
def mO:DF:=⟨.seq (ah [((some 4),.op (.bc (.val (.val (.complex .f64 0 0)))))]) <|
  .seq (.seq (.region [] [⟨none,[aa 8 1,aw 9 .lss 8 0,aa 10 9]⟩,⟨(some (10,false)),[aa 11 1,aa 12 0,aR 13 12,aQ 14 .gtr 11 13]⟩,⟨none,[bV 15 10 14]⟩]) <|
  .cond (.tmp 15) (.seq (ah [((some 4),.op (.bc (.val (.val (.complex .f64 0 0)))))]) <|
  .ret) (.skip)) <|
  .seq (ah [aA 5 1,aA 6 1]) <|
  .seq (.seq (ah [aA 7 0]) <|
  .block 0 (.loop rb)) <|
  .seq (ah [aa 30 5,aa 31 6,aD 32 216 [30,31],aa 4 32]) <|
  .ret,
  [.tmp 4],33⟩
theorem qI:aF Tryz.prog 178 []=some mO:=by kernel_rfl
def ml:DF:=⟨.seq (ah [((some 4),.op (.bc (.val (.val (.complex .f64 0 0)))))]) <|
  .seq (.seq (.region [] [⟨none,[aa 5 0,aw 6 .lss 5 1,aa 7 6]⟩,⟨(some (7,false)),[aa 8 0,aw 9 .gtr 8 1073741824]⟩,⟨none,[bV 10 7 9,aa 11 10]⟩,⟨(some (11,false)),[aa 12 1,aw 13 .lss 12 1]⟩,⟨none,[bV 14 11 13,aa 15 14]⟩,⟨(some (15,false)),[aa 16 1,aw 17 .gtr 16 1073741824]⟩,⟨none,[bV 18 15 17]⟩]) <|
  .cond (.tmp 18) (.seq (ah [((some 4),.op (.bc (.val (.val (.complex .f64 0 0)))))]) <|
  .ret) (.skip)) <|
  .seq (ah [aa 19 0,((some 20),.op (.old (.convert 3 275 (.tmp 19)) 275)),aa 21 1,((some 22),.op (.old (.convert 3 275 (.tmp 21)) 275)),((some 23),.op (.old (.call { callee:=.builtin .complex,args:=#[(.tmp 20),(.tmp 22)],argTypes:=#[275,275] }) 88)),aa 4 23]) <|
  .ret,
  [.tmp 4],24⟩
theorem qN:aF Tryz.prog 216 []=some ml:=by kernel_rfl
def qG:DC :=
  .seq (.seq (.region [] [⟨none,[aa 27 9,aa 28 0,aR 29 28,aQ 30 .lss 27 29,aa 31 30]⟩,⟨(some (31,true)),[aa 32 0,aa 33 9,ba 34 1 32 33,ar 35 34,aD 36 194 [35]]⟩,⟨none,[bq 37 31 36]⟩]) <|
  .cond (.tmp 37) (.skip) (.exit 1)) <|
  .block 2 (ah [aa 38 9,aw 39 .add 38 1,aa 9 39])
def qM:DC :=
  .seq (.seq (ah [aa 58 10,aw 59 .leq 58 4]) <|
  .cond (.tmp 59) (.skip) (.exit 3)) <|
  .seq (.block 4 (.seq (.region [] [⟨none,[aa 62 1,aa 63 10,aQ 64 .add 62 63,aa 65 0,aR 66 65,aQ 67 .leq 64 66,aa 68 67]⟩,⟨(some (68,true)),[aa 69 0,aa 70 1,aa 71 1,aa 72 10,aQ 73 .add 71 72,((some 74),.op (.slice 1 (.tmp 69) (some (.tmp 70)) (some (.tmp 73)))),((some 75),.op (.old (.convert 91 9 (.tmp 74)) 9)),aD 76 192 [75]]⟩,⟨none,[bq 77 68 76]⟩]) <|
  .cond (.tmp 77) (.seq (.region [(6,8)] [⟨none,[aa 78 0,aa 79 1,aa 80 1,aa 81 10,aQ 82 .add 80 81,((some 83),.op (.slice 1 (.tmp 78) (some (.tmp 79)) (some (.tmp 82)))),((some 84),.op (.old (.convert 91 9 (.tmp 83)) 9)),an 85 0 7,(none,.op (.store 1 (.tmp 85) (.val (.val (.int .i64 2))))),an 86 1 7,(none,.op (.store 1 (.tmp 86) (.tmp 84)))]⟩]) <|
  .seq (ah [aO 87 3 7,aa 88 1,aa 89 10,aQ 90 .add 88 89,(none,.op (.store 3 (.tmp 4) (.tmp 87))),aa 5 90,aA 6 0]) <|
  .ret) (.skip))) <|
  ah [aa 60 10,aw 61 .add 60 1,aa 10 61]
def qK:DC :=
  .seq (.seq (.region [] [⟨none,[aa 108 9,aa 109 0,aR 110 109,aQ 111 .lss 108 110,aa 112 111]⟩,⟨(some (112,true)),[aa 113 0,aa 114 9,ba 115 1 113 114,ar 116 115,((some 117),.op (.arith .geq (.tmp 116) (.val (.val (.int .u8 97)))))]⟩,⟨none,[bq 118 112 117,aa 119 118]⟩,⟨(some (119,true)),[aa 120 0,aa 121 9,ba 122 1 120 121,ar 123 122,((some 124),.op (.arith .leq (.tmp 123) (.val (.val (.int .u8 122)))))]⟩,⟨none,[bq 125 119 124]⟩]) <|
  .cond (.tmp 125) (.skip) (.exit 5)) <|
  .block 6 (ah [aa 126 9,aw 127 .add 126 1,aa 9 127])
def lF:DF:=⟨.seq (.region [] [⟨none,[((some 4),.op (.alloc [(.val (.int .i64 0)),(.val (.string ⟨#[]⟩)),(.val (.complex .f64 0 0))])),aA 5 0,aA 6 0]⟩]) <|
  .seq (.region [] [⟨none,[aa 11 0,aa 12 1,aD 13 178 [11,12],((some 14),.op (.build [(.val (.int .i64 0)),(.val (.string ⟨#[]⟩)),(.val (.complex .f64 0 0))] [(2,1,(.tmp 13))])),((some 7),.op (.alloc [(.val (.int .i64 0)),(.val (.string ⟨#[]⟩)),(.val (.complex .f64 0 0))])),(none,.op (.store 3 (.tmp 7) (.tmp 14)))]⟩]) <|
  .seq (ah [aa 15 0,aa 16 1,ba 17 1 15 16,ar 18 17,aa 8 18]) <|
  .seq (ah [aa 19 1,aw 20 .add 19 1,aa 9 20]) <|
  .seq (.block 0 (.seq (ah [aa 25 8,aD 26 193 [25],aa 24 26]) <|
  .cond (.tmp 24) (.seq (.block 1 (.loop qG)) <|
  .seq (.seq (ah [aa 40 9,aa 41 1,aQ 42 .sub 40 41,aw 43 .gtr 42 20]) <|
  .cond (.tmp 43) (.seq (ah [aO 44 3 7,aa 45 9,(none,.op (.store 3 (.tmp 4) (.tmp 44))),aa 5 45,aA 6 5]) <|
  .ret) (.skip)) <|
  .seq (.region [(4,6)] [⟨none,[aa 46 0,aa 47 1,aa 48 9,((some 49),.op (.slice 1 (.tmp 46) (some (.tmp 47)) (some (.tmp 48)))),((some 50),.op (.old (.convert 91 9 (.tmp 49)) 9)),an 51 0 7,(none,.op (.store 1 (.tmp 51) (.val (.val (.int .i64 1))))),an 52 1 7,(none,.op (.store 1 (.tmp 52) (.tmp 50)))]⟩]) <|
  .seq (ah [aO 53 3 7,aa 54 9,(none,.op (.store 3 (.tmp 4) (.tmp 53))),aa 5 54,aA 6 0]) <|
  .ret) (.seq (ah [aa 56 8,((some 57),.op (.arith .eql (.tmp 56) (.val (.val (.int .u8 39))))),aa 55 57]) <|
  .cond (.tmp 55) (.seq (.seq (ah [aA 10 3]) <|
  .block 3 (.loop qM)) <|
  .seq (.region [(0,5)] [⟨none,[aO 91 3 7,aa 92 9,aa 93 0,aa 94 1,((some 95),.op (.slice 1 (.tmp 93) (some (.tmp 94)) none)),aD 96 217 [95],(none,.op (.store 3 (.tmp 4) (.tmp 91))),aa 5 92,aa 6 96]⟩]) <|
  .ret) (.seq (.region [] [⟨none,[aa 98 0,aa 99 1,cn 100 212 [(.tmp 98),(.tmp 99),(.val (.val (.string ⟨#[37,37]⟩)))],aa 97 100]⟩]) <|
  .cond (.tmp 97) (.seq (ah [an 101 0 7,(none,.op (.store 1 (.tmp 101) (.val (.val (.int .i64 9)))))]) <|
  .seq (ah [aO 102 3 7,aa 103 1,aw 104 .add 103 2,(none,.op (.store 3 (.tmp 4) (.tmp 102))),aa 5 104,aA 6 0]) <|
  .ret) (.seq (ah [aa 106 8,((some 107),.op (.arith .eql (.tmp 106) (.val (.val (.int .u8 37))))),aa 105 107]) <|
  .cond (.tmp 105) (.seq (.block 5 (.loop qK)) <|
  ah [aa 128 0,aa 129 1,aw 130 .add 129 1,aa 131 9,((some 132),.op (.slice 1 (.tmp 128) (some (.tmp 130)) (some (.tmp 131)))),((some 133),.op (.old (.convert 91 9 (.tmp 132)) 9)),aD 134 218 [133],an 135 0 7,(none,.op (.store 1 (.tmp 135) (.tmp 134)))]) (ah [aa 21 8,aD 22 219 [21],an 23 0 7,(none,.op (.store 1 (.tmp 23) (.tmp 22)))])))))) <|
  .seq (.seq (ah [an 136 0 7,ar 137 136,aw 138 .eql 137 0]) <|
  .cond (.tmp 138) (.seq (ah [aO 139 3 7,aa 140 9,(none,.op (.store 3 (.tmp 4) (.tmp 139))),aa 5 140,aA 6 3]) <|
  .ret) (.skip)) <|
  .seq (ah [aO 141 3 7,aa 142 9,(none,.op (.store 3 (.tmp 4) (.tmp 141))),aa 5 142,aA 6 0]) <|
  .ret,
  [.cell 4 (some 3),.tmp 5,.tmp 6],143⟩
theorem p8:aF Tryz.prog 179 []=some lF:=by kernel_rfl
def jW:DF:=⟨.seq (ah [aY 2 false]) <|
  .seq (.region [] [⟨none,[aa 3 0,aD 4 193 [3],aa 5 4]⟩,⟨(some (5,false)),[aa 6 0,((some 7),.op (.arith .geq (.tmp 6) (.val (.val (.int .u8 48))))),aa 8 7]⟩,⟨(some (8,true)),[aa 9 0,((some 10),.op (.arith .leq (.tmp 9) (.val (.val (.int .u8 57)))))]⟩,⟨(some (5,false)),[bq 11 8 10]⟩,⟨none,[bV 12 5 11,aa 13 12]⟩,⟨(some (13,false)),[aa 14 0,((some 15),.op (.arith .eql (.tmp 14) (.val (.val (.int .u8 46)))))]⟩,⟨none,[bV 16 13 15,aa 2 16]⟩]) <|
  .ret,
  [.tmp 2],17⟩
theorem nX:aF Tryz.prog 194 []=some jW:=by kernel_rfl
def j4:DF:=⟨.seq (ah [aY 2 false]) <|
  .seq (.region [] [⟨none,[aa 3 0,((some 4),.op (.arith .geq (.tmp 3) (.val (.val (.int .u8 97))))),aa 5 4]⟩,⟨(some (5,true)),[aa 6 0,((some 7),.op (.arith .leq (.tmp 6) (.val (.val (.int .u8 122)))))]⟩,⟨none,[bq 8 5 7,aa 9 8]⟩,⟨(some (9,false)),[aa 10 0,((some 11),.op (.arith .geq (.tmp 10) (.val (.val (.int .u8 65))))),aa 12 11]⟩,⟨(some (12,true)),[aa 13 0,((some 14),.op (.arith .leq (.tmp 13) (.val (.val (.int .u8 90)))))]⟩,⟨(some (9,false)),[bq 15 12 14]⟩,⟨none,[bV 16 9 15,aa 17 16]⟩,⟨(some (17,false)),[aa 18 0,((some 19),.op (.arith .eql (.tmp 18) (.val (.val (.int .u8 95)))))]⟩,⟨none,[bV 20 17 19,aa 2 20]⟩]) <|
  .ret,
  [.tmp 2],21⟩
theorem nU:aF Tryz.prog 193 []=some j4:=by kernel_rfl
def jd:DF:=⟨.seq (ah [aY 2 false]) <|
  .seq (.seq (ah [aa 3 0,((some 4),.op (.ik (.tmp 3))),aw 5 .eql 4 3]) <|
  .cond (.tmp 5) (.seq (.region [] [⟨none,[aa 6 0,((some 7),.op (.ee (.tmp 6) (.val (.val (.int .i64 0))))),((some 8),.op (.arith .eql (.tmp 7) (.val (.val (.int .u8 39))))),aa 9 8]⟩,⟨(some (9,true)),[aa 10 0,((some 11),.op (.ee (.tmp 10) (.val (.val (.int .i64 2))))),((some 12),.op (.arith .eql (.tmp 11) (.val (.val (.int .u8 39)))))]⟩,⟨none,[bq 13 9 12,aa 14 13]⟩,⟨(some (14,true)),[aa 15 0,((some 16),.op (.ee (.tmp 15) (.val (.val (.int .i64 1))))),((some 17),.op (.arith .geq (.tmp 16) (.val (.val (.int .u8 32)))))]⟩,⟨none,[bq 18 14 17,aa 19 18]⟩,⟨(some (19,true)),[aa 20 0,((some 21),.op (.ee (.tmp 20) (.val (.val (.int .i64 1))))),((some 22),.op (.arith .leq (.tmp 21) (.val (.val (.int .u8 126)))))]⟩,⟨none,[bq 23 19 22,aa 24 23]⟩,⟨(some (24,true)),[aa 25 0,((some 26),.op (.ee (.tmp 25) (.val (.val (.int .i64 1))))),((some 27),.op (.arith .neq (.tmp 26) (.val (.val (.int .u8 39)))))]⟩,⟨none,[bq 28 24 27,aa 29 28]⟩,⟨(some (29,true)),[aa 30 0,((some 31),.op (.ee (.tmp 30) (.val (.val (.int .i64 1))))),((some 32),.op (.arith .neq (.tmp 31) (.val (.val (.int .u8 92)))))]⟩,⟨none,[bq 33 29 32,aa 2 33]⟩]) <|
  .ret) (.skip)) <|
  .seq (.region [] [⟨none,[aa 34 0,((some 35),.op (.ik (.tmp 34))),aw 36 .eql 35 4,aa 37 36]⟩,⟨(some (37,true)),[aa 38 0,((some 39),.op (.ee (.tmp 38) (.val (.val (.int .i64 0))))),((some 40),.op (.arith .eql (.tmp 39) (.val (.val (.int .u8 39)))))]⟩,⟨none,[bq 41 37 40,aa 42 41]⟩,⟨(some (42,true)),[aa 43 0,((some 44),.op (.ee (.tmp 43) (.val (.val (.int .i64 3))))),((some 45),.op (.arith .eql (.tmp 44) (.val (.val (.int .u8 39)))))]⟩,⟨none,[bq 46 42 45,aa 47 46]⟩,⟨(some (47,true)),[aa 48 0,((some 49),.op (.ee (.tmp 48) (.val (.val (.int .i64 1))))),((some 50),.op (.arith .eql (.tmp 49) (.val (.val (.int .u8 92)))))]⟩,⟨none,[bq 51 47 50,aa 52 51]⟩,⟨(some (52,true)),[aa 53 0,((some 54),.op (.ee (.tmp 53) (.val (.val (.int .i64 2))))),((some 55),.op (.arith .eql (.tmp 54) (.val (.val (.int .u8 110))))),aa 56 55]⟩,⟨(some (56,false)),[aa 57 0,((some 58),.op (.ee (.tmp 57) (.val (.val (.int .i64 2))))),((some 59),.op (.arith .eql (.tmp 58) (.val (.val (.int .u8 116)))))]⟩,⟨(some (52,true)),[bV 60 56 59,aa 61 60]⟩,⟨(some (61,false)),[aa 62 0,((some 63),.op (.ee (.tmp 62) (.val (.val (.int .i64 2))))),((some 64),.op (.arith .eql (.tmp 63) (.val (.val (.int .u8 92)))))]⟩,⟨(some (52,true)),[bV 65 61 64,aa 66 65]⟩,⟨(some (66,false)),[aa 67 0,((some 68),.op (.ee (.tmp 67) (.val (.val (.int .i64 2))))),((some 69),.op (.arith .eql (.tmp 68) (.val (.val (.int .u8 39)))))]⟩,⟨(some (52,true)),[bV 70 66 69]⟩,⟨none,[bq 71 52 70,aa 2 71]⟩]) <|
  .ret,
  [.tmp 2],72⟩
theorem mR:aF Tryz.prog 192 []=some jd:=by kernel_rfl
def mU:DC :=
  .seq (.seq (ah [aa 6 4,aa 7 3,aR 8 7,aQ 9 .lss 6 8]) <|
  .cond (.tmp 9) (.skip) (.exit 0)) <|
  .seq (.block 1 (.seq (.region [(5,9)] [⟨none,[aa 12 0,aR 13 12,aw 14 .lss 13 4,aa 15 14]⟩,⟨(some (15,true)),[aa 16 0,((some 17),.op (.old (.convert 91 9 (.tmp 16)) 9)),aa 18 3,aa 19 4,ba 20 1 18 19,ar 21 20,((some 22),.op (.hZ .add (.tmp 17) (.tmp 21))),aD 23 192 [22]]⟩,⟨none,[bq 24 15 23]⟩]) <|
  .cond (.tmp 24) (.seq (ah [aA 2 4]) <|
  .ret) (.skip))) <|
  ah [aa 10 4,aw 11 .add 10 1,aa 4 11]
def iY:DF:=⟨.seq (ah [aA 2 0]) <|
  .seq (.region [] [⟨none,[((some 5),.op (.bz 5 1 [(.val (.string ⟨#[]⟩))] [(0,(.val (.val (.string ⟨#[120,39]⟩)))),(1,(.val (.val (.string ⟨#[39]⟩)))),(2,(.val (.val (.string ⟨#[92,110,39]⟩)))),(3,(.val (.val (.string ⟨#[110,39]⟩)))),(4,(.val (.val (.string ⟨#[92,39,39]⟩))))])),aa 3 5]⟩]) <|
  .seq (.seq (ah [aA 4 0]) <|
  .block 0 (.loop mU)) <|
  .seq (ah [aA 2 3]) <|
  .ret,
  [.tmp 2],25⟩
theorem mN:aF Tryz.prog 217 []=some iY:=by kernel_rfl
def ja:DF:=⟨.seq (ah [aA 2 0]) <|
  .seq (.seq (ah [aa 3 0]) <|
  .block 0 (.seq (.region [] [⟨none,[((some 5),.op (.hZ .eql (.tmp 3) (.val (.val (.string ⟨#[116,111,107,101,110]⟩))))),aa 4 5]⟩]) <|
  .cond (.tmp 4) (.seq (ah [aA 2 3]) <|
  .ret) (.seq (.region [] [⟨none,[((some 7),.op (.hZ .eql (.tmp 3) (.val (.val (.string ⟨#[108,101,102,116]⟩))))),aa 6 7]⟩]) <|
  .cond (.tmp 6) (.seq (ah [aA 2 4]) <|
  .ret) (.seq (.region [] [⟨none,[((some 9),.op (.hZ .eql (.tmp 3) (.val (.val (.string ⟨#[114,105,103,104,116]⟩))))),aa 8 9]⟩]) <|
  .cond (.tmp 8) (.seq (ah [aA 2 5]) <|
  .ret) (.seq (.region [] [⟨none,[((some 11),.op (.hZ .eql (.tmp 3) (.val (.val (.string ⟨#[110,111,110,97,115,115,111,99]⟩))))),aa 10 11]⟩]) <|
  .cond (.tmp 10) (.seq (ah [aA 2 6]) <|
  .ret) (.seq (.region [] [⟨none,[((some 13),.op (.hZ .eql (.tmp 3) (.val (.val (.string ⟨#[115,116,97,114,116]⟩))))),aa 12 13]⟩]) <|
  .cond (.tmp 12) (.seq (ah [aA 2 7]) <|
  .ret) (.seq (.region [] [⟨none,[((some 15),.op (.hZ .eql (.tmp 3) (.val (.val (.string ⟨#[112,114,101,99]⟩))))),aa 14 15]⟩]) <|
  .cond (.tmp 14) (.seq (ah [aA 2 8]) <|
  .ret) (.skip)))))))) <|
  .seq (ah [aA 2 0]) <|
  .ret,
  [.tmp 2],16⟩
theorem mg:aF Tryz.prog 218 []=some ja:=by kernel_rfl
def kO:DF:=⟨.seq (ah [aA 2 0]) <|
  .seq (.seq (ah [aa 3 0]) <|
  .block 0 (.seq (ah [((some 5),.op (.arith .eql (.tmp 3) (.val (.val (.int .u8 58))))),aa 4 5]) <|
  .cond (.tmp 4) (.seq (ah [aA 2 10]) <|
  .ret) (.seq (ah [((some 7),.op (.arith .eql (.tmp 3) (.val (.val (.int .u8 124))))),aa 6 7]) <|
  .cond (.tmp 6) (.seq (ah [aA 2 11]) <|
  .ret) (.seq (ah [((some 9),.op (.arith .eql (.tmp 3) (.val (.val (.int .u8 59))))),aa 8 9]) <|
  .cond (.tmp 8) (.seq (ah [aA 2 12]) <|
  .ret) (.skip))))) <|
  .seq (ah [aA 2 0]) <|
  .ret,
  [.tmp 2],10⟩
theorem o9:aF Tryz.prog 219 []=some kO:=by kernel_rfl
def rl:DC :=
  .seq (.seq (.region [] [⟨none,[aa 21 7,bp 22 21,an 23 3 22,ar 24 23,aw 25 .eql 24 0,aa 26 25]⟩,⟨(some (26,true)),[aa 27 7,bp 28 27,an 29 0 28,ar 30 29,aR 31 30,aw 32 .gtr 31 0]⟩,⟨none,[bq 33 26 32,aa 34 33]⟩,⟨(some (34,true)),[aa 35 7,aD 36 183 [35],aw 37 .neq 36 9]⟩,⟨none,[bq 38 34 37]⟩]) <|
  .cond (.tmp 38) (.skip) (.exit 0)) <|
  .block 1 (.region [(1,3)] [⟨none,[an 39 1 8,ar 40 39,aa 41 7,aD 42 182 [41],((some 43),.op (.app 5 88 (.tmp 40) (.tmp 42))),an 44 1 8,(none,.op (.store 1 (.tmp 44) (.tmp 43)))]⟩])
def mD:DF:=⟨.seq (ah [((some 4),.op (.alloc [(.emp 1),(.emp 1)])),((some 5),.op (.bc (.val (.val (.complex .f64 0 0))))),aA 6 0]) <|
  .seq (ah [aa 9 0,aa 10 1,((some 11),.op (.build [(.emp 1),(.val (.complex .f64 0 0)),(.val (.complex .f64 0 0)),(.val (.int .i64 0))] [(0,1,(.tmp 9)),(1,1,(.tmp 10))])),((some 12),.op (.box (.tmp 11))),aa 7 12]) <|
  .seq (ah [aa 13 7,aD 14 180 [13],((some 15),.op (.build [(.emp 1),(.emp 1)] [(0,1,(.tmp 14))])),((some 8),.op (.alloc [(.emp 1),(.emp 1)])),(none,.op (.store 2 (.tmp 8) (.tmp 15)))]) <|
  .seq (ah [aa 16 7,cn 17 181 [(.tmp 16),(.val (.val (.int .i64 9))),(.val (.val (.int .i64 9)))]]) <|
  .seq (ah [aa 18 7,aD 19 182 [18],an 20 1 8,(none,.op (.store 1 (.tmp 20) (.tmp 19)))]) <|
  .seq (.block 0 (.loop rl)) <|
  .seq (.seq (.region [] [⟨none,[aa 45 7,bp 46 45,an 47 3 46,ar 48 47,aw 49 .eql 48 0,aa 50 49]⟩,⟨(some (50,true)),[aa 51 7,bp 52 51,an 53 0 52,ar 54 53,aR 55 54,aw 56 .gtr 55 0]⟩,⟨none,[bq 57 50 56]⟩]) <|
  .cond (.tmp 57) (ah [aa 58 7,cn 59 181 [(.tmp 58),(.val (.val (.int .i64 9))),(.val (.val (.int .i64 9)))]]) (.skip)) <|
  .seq (.seq (ah [aa 60 7,bp 61 60,an 62 0 61,ar 63 62,aR 64 63,aw 65 .gtr 64 0]) <|
  .cond (.tmp 65) (ah [aa 66 7,aD 67 184 [66]]) (.skip)) <|
  .seq (.seq (ah [aa 68 7,bp 69 68,an 70 3 69,ar 71 70,aw 72 .neq 71 0]) <|
  .cond (.tmp 72) (.seq (.region [(4,9),(8,9)] [⟨none,[((some 73),.op (.build [(.emp 1),(.emp 1)] [])),aa 74 7,bp 75 74,an 76 2 75,ar 77 76,aa 78 7,bp 79 78,an 80 3 79,ar 81 80,(none,.op (.store 2 (.tmp 4) (.tmp 73))),aa 5 77,aa 6 81]⟩]) <|
  .ret) (.skip)) <|
  .seq (ah [aO 82 2 8,(none,.op (.store 2 (.tmp 4) (.tmp 82))),((some 5),.op (.bc (.val (.val (.complex .f64 0 0))))),aA 6 0]) <|
  .ret,
  [.cell 4 (some 2),.tmp 5,.tmp 6],83⟩
theorem qH:aF Tryz.prog 135 []=some mD:=by kernel_rfl
def gw:DF:=⟨.seq (ah [aA 2 0]) <|
  .seq (.seq (.region [] [⟨none,[aa 3 0,bp 4 3,an 5 3 4,ar 6 5,aw 7 .neq 6 0,aa 8 7]⟩,⟨(some (8,false)),[aa 9 0,bp 10 9,an 11 0 10,ar 12 11,aR 13 12,aw 14 .eql 13 0]⟩,⟨none,[bV 15 8 14]⟩]) <|
  .cond (.tmp 15) (.seq (ah [aA 2 0]) <|
  .ret) (.skip)) <|
  .seq (ah [aa 16 0,bp 17 16,an 18 0 17,ar 19 18,((some 20),.op (.idx 3 (.tmp 19) (.val (.val (.int .i64 0))))),an 21 0 20,ar 22 21,aa 2 22]) <|
  .ret,
  [.tmp 2],23⟩
theorem kf:aF Tryz.prog 183 []=some gw:=by kernel_rfl
def ko:DC :=
  .seq (.seq (ah [aa 10 0,bp 11 10,an 12 3 11,ar 13 12,aw 14 .eql 13 0]) <|
  .cond (.tmp 14) (.skip) (.exit 0)) <|
  .block 1 (.seq (.region [(0,2),(2,4)] [⟨none,[aO 15 2 4,aa 16 0,aD 17 220 [16],((some 18),.op (.build [(.val (.string ⟨#[]⟩)),(.val (.complex .f64 0 0)),(.emp 1),(.val (.string ⟨#[]⟩)),(.val (.complex .f64 0 0))] [(0,2,(.tmp 15)),(2,1,(.tmp 17))])),((some 5),.op (.alloc [(.val (.string ⟨#[]⟩)),(.val (.complex .f64 0 0)),(.emp 1),(.val (.string ⟨#[]⟩)),(.val (.complex .f64 0 0))])),(none,.op (.store 5 (.tmp 5) (.tmp 18)))]⟩]) <|
  .seq (.seq (ah [aa 19 0,cn 20 221 [(.tmp 19),(.val (.val (.int .i64 8))),(.val (.val (.int .i64 8)))]]) <|
  .cond (.tmp 20) (.seq (ah [aa 21 0,cn 22 181 [(.tmp 21),(.val (.val (.int .i64 8))),(.val (.val (.int .i64 8)))]]) <|
  ah [aa 23 0,cn 24 181 [(.tmp 23),(.val (.val (.int .i64 1))),(.val (.val (.int .i64 2)))],an 25 3 5,(none,.op (.store 2 (.tmp 25) (.tmp 24)))]) (.skip)) <|
  .seq (.region [] [⟨none,[aa 26 3,aO 27 5 5,((some 28),.op (.bz 1 5 [(.val (.string ⟨#[]⟩)),(.val (.complex .f64 0 0)),(.emp 1),(.val (.string ⟨#[]⟩)),(.val (.complex .f64 0 0))] [(0,(.tmp 27))])),((some 29),.op (.app 5 88 (.tmp 26) (.tmp 28))),aa 3 29]⟩]) <|
  .seq (.seq (ah [aa 30 0,cn 31 221 [(.tmp 30),(.val (.val (.int .i64 11))),(.val (.val (.int .i64 11)))],cw 32 31]) <|
  .cond (.tmp 32) (.seq (ah [aa 33 0,cn 34 181 [(.tmp 33),(.val (.val (.int .i64 12))),(.val (.val (.int .i64 12)))]]) <|
  .seq (ah [aa 35 3,aa 2 35]) <|
  .ret) (.skip)) <|
  ah [aa 36 0,cn 37 181 [(.tmp 36),(.val (.val (.int .i64 11))),(.val (.val (.int .i64 11)))]])
def fX:DF:=⟨.seq (ah [((some 2),.op (.bc (.val (.emp 1))))]) <|
  .seq (ah [((some 3),.op (.bc (.val (.emp 1))))]) <|
  .seq (.region [] [⟨none,[aa 6 0,cn 7 181 [(.tmp 6),(.val (.val (.int .i64 1))),(.val (.val (.int .i64 1)))],((some 4),.op (.alloc [(.val (.string ⟨#[]⟩)),(.val (.complex .f64 0 0))])),(none,.op (.store 2 (.tmp 4) (.tmp 7)))]⟩]) <|
  .seq (ah [aa 8 0,cn 9 181 [(.tmp 8),(.val (.val (.int .i64 10))),(.val (.val (.int .i64 10)))]]) <|
  .seq (.block 0 (.loop ko)) <|
  .seq (ah [aa 38 3,aa 2 38]) <|
  .ret,
  [.tmp 2],39⟩
theorem jR:aF Tryz.prog 182 []=some fX:=by kernel_rfl
def kT:DC :=
  .seq (.seq (ah [aa 4 0,cn 5 221 [(.tmp 4),(.val (.val (.int .i64 1))),(.val (.val (.int .i64 2)))]]) <|
  .cond (.tmp 5) (.skip) (.exit 0)) <|
  .block 1 (.region [] [⟨none,[aa 6 3,aa 7 0,cn 8 181 [(.tmp 7),(.val (.val (.int .i64 1))),(.val (.val (.int .i64 2)))],((some 9),.op (.bz 1 2 [(.val (.string ⟨#[]⟩)),(.val (.complex .f64 0 0))] [(0,(.tmp 8))])),((some 10),.op (.app 2 32 (.tmp 6) (.tmp 9))),aa 3 10]⟩])
def gp:DF:=⟨.seq (ah [((some 2),.op (.bc (.val (.emp 1))))]) <|
  .seq (ah [((some 3),.op (.bc (.val (.emp 1))))]) <|
  .seq (.block 0 (.loop kT)) <|
  .seq (ah [aa 11 3,aa 2 11]) <|
  .ret,
  [.tmp 2],12⟩
theorem j9:aF Tryz.prog 220 []=some gp:=by kernel_rfl
def ic:DF:=⟨.seq (ah [aY 6 false]) <|
  .seq (.region [] [⟨none,[aa 7 0,bp 8 7,an 9 0 8,ar 10 9,aR 11 10,aw 12 .gtr 11 0,aa 13 12]⟩,⟨(some (13,true)),[aa 14 0,aD 15 183 [14],aa 16 1,aQ 17 .eql 15 16,aa 18 17]⟩,⟨(some (18,false)),[aa 19 0,aD 20 183 [19],aa 21 2,aQ 22 .eql 20 21]⟩,⟨(some (13,true)),[bV 23 18 22]⟩,⟨none,[bq 24 13 23,aa 6 24]⟩]) <|
  .ret,
  [.tmp 6],25⟩
theorem lE:aF Tryz.prog 221 []=some ic:=by kernel_rfl
def gq:DF:=⟨.seq (.region [] [⟨none,[((some 6),.op (.alloc [(.val (.string ⟨#[]⟩)),(.val (.complex .f64 0 0))]))]⟩]) <|
  .seq (.seq (.region [] [⟨none,[aa 8 0,bp 9 8,an 10 3 9,ar 11 10,aw 12 .neq 11 0,aa 13 12]⟩,⟨(some (13,false)),[aa 14 0,aa 15 1,aa 16 2,aD 17 221 [14,15,16],cw 18 17]⟩,⟨none,[bV 19 13 18]⟩]) <|
  .cond (.tmp 19) (.seq (ah [aa 20 0,aD 21 184 [20]]) <|
  .seq (.region [] [⟨none,[((some 22),.op (.build [(.val (.string ⟨#[]⟩)),(.val (.complex .f64 0 0))] [])),(none,.op (.store 2 (.tmp 6) (.tmp 22)))]⟩]) <|
  .ret) (.skip)) <|
  .seq (.region [] [⟨none,[aa 23 0,bp 24 23,an 25 0 24,ar 26 25,((some 27),.op (.idx 3 (.tmp 26) (.val (.val (.int .i64 0))))),aO 28 3 27,((some 7),.op (.alloc [(.val (.int .i64 0)),(.val (.string ⟨#[]⟩)),(.val (.complex .f64 0 0))])),(none,.op (.store 3 (.tmp 7) (.tmp 28)))]⟩]) <|
  .seq (ah [aa 29 0,aa 30 0,bp 31 30,an 32 0 31,ar 33 32,((some 34),.op (.slice 3 (.tmp 33) (some (.val (.val (.int .i64 1)))) none)),bp 35 29,an 36 0 35,(none,.op (.store 1 (.tmp 36) (.tmp 34)))]) <|
  .seq (.region [] [⟨none,[an 37 1 7,ar 38 37,an 39 2 7,ar 40 39,((some 41),.op (.build [(.val (.string ⟨#[]⟩)),(.val (.complex .f64 0 0))] [(0,1,(.tmp 38)),(1,1,(.tmp 40))])),(none,.op (.store 2 (.tmp 6) (.tmp 41)))]⟩]) <|
  .ret,
  [.cell 6 (some 2)],42⟩
theorem ka:aF Tryz.prog 181 []=some gq:=by kernel_rfl
def gu:DF:=⟨.seq (.seq (ah [aa 2 0,bp 3 2,an 4 3 3,ar 5 4,aw 6 .neq 5 0]) <|
  .cond (.tmp 6) (.ret) (.skip)) <|
  .seq (ah [aa 7 0,aa 8 0,aa 9 0,bp 10 9,an 11 1 10,ar 12 11,bp 13 7,an 14 2 13,(none,.op (.store 1 (.tmp 14) (.tmp 12))),bp 15 8,an 16 3 15,(none,.op (.store 1 (.tmp 16) (.val (.val (.int .i64 4)))))]) <|
  .seq (ah [aa 17 0,bp 18 17,an 19 0 18,ar 20 19,aR 21 20,aw 22 .gtr 21 0]) <|
  .cond (.tmp 22) (ah [aa 23 0,aa 24 0,aa 25 0,bp 26 25,an 27 0 26,ar 28 27,((some 29),.op (.idx 3 (.tmp 28) (.val (.val (.int .i64 0))))),an 30 2 29,ar 31 30,bp 32 23,an 33 2 32,(none,.op (.store 1 (.tmp 33) (.tmp 31))),bp 34 24,an 35 3 34,(none,.op (.store 1 (.tmp 35) (.val (.val (.int .i64 3)))))]) (.skip),
  [],36⟩
theorem kh:aF Tryz.prog 184 []=some gu:=by kernel_rfl
def j8:DC :=
  .seq (.seq (.region [] [⟨none,[aa 6 0,bp 7 6,an 8 3 7,ar 9 8,aw 10 .eql 9 0,aa 11 10]⟩,⟨(some (11,true)),[aa 12 0,bp 13 12,an 14 0 13,ar 15 14,aR 16 15,aw 17 .gtr 16 0]⟩,⟨none,[bq 18 11 17,aa 19 18]⟩,⟨(some (19,true)),[aa 20 0,aD 21 183 [20],aw 22 .neq 21 9]⟩,⟨none,[bq 23 19 22]⟩]) <|
  .cond (.tmp 23) (.skip) (.exit 0)) <|
  .block 1 (.seq (ah [aa 24 0,aD 25 183 [24],aa 4 25]) <|
  .seq (.seq (ah [aa 26 4,aw 27 .eql 26 7]) <|
  .cond (.tmp 27) (.seq (ah [aa 28 0,aa 29 4,aa 30 4,aD 31 181 [28,29,30]]) <|
  .seq (.region [] [⟨none,[aa 32 3,aa 33 4,aa 34 0,cn 35 181 [(.tmp 34),(.val (.val (.int .i64 1))),(.val (.val (.int .i64 1)))],((some 36),.op (.bz 1 2 [(.val (.string ⟨#[]⟩)),(.val (.complex .f64 0 0))] [(0,(.tmp 35))])),((some 37),.op (.build [(.val (.int .i64 0)),(.emp 1)] [(0,1,(.tmp 33)),(1,1,(.tmp 36))])),((some 38),.op (.bz 1 2 [(.val (.int .i64 0)),(.emp 1)] [(0,(.tmp 37))])),((some 39),.op (.app 2 32 (.tmp 32) (.tmp 38))),aa 3 39]⟩]) <|
  .exit 1) (.skip)) <|
  .seq (.seq (.region [] [⟨none,[aa 40 4,aw 41 .neq 40 3,aa 42 41]⟩,⟨(some (42,true)),[aa 43 4,aw 44 .neq 43 4]⟩,⟨none,[bq 45 42 44,aa 46 45]⟩,⟨(some (46,true)),[aa 47 4,aw 48 .neq 47 5]⟩,⟨none,[bq 49 46 48,aa 50 49]⟩,⟨(some (50,true)),[aa 51 4,aw 52 .neq 51 6]⟩,⟨none,[bq 53 50 52]⟩]) <|
  .cond (.tmp 53) (.seq (ah [aa 54 0,aD 55 184 [54]]) <|
  .exit 1) (.skip)) <|
  .seq (ah [aa 56 0,aa 57 4,aa 58 4,aD 59 181 [56,57,58]]) <|
  .seq (.region [] [⟨none,[aa 60 0,cn 61 181 [(.tmp 60),(.val (.val (.int .i64 1))),(.val (.val (.int .i64 2)))],((some 5),.op (.alloc [(.val (.string ⟨#[]⟩)),(.val (.complex .f64 0 0))])),(none,.op (.store 2 (.tmp 5) (.tmp 61)))]⟩]) <|
  .region [(2,5),(3,5)] [⟨none,[aa 62 3,aa 63 4,aO 64 2 5,((some 65),.op (.bz 1 2 [(.val (.string ⟨#[]⟩)),(.val (.complex .f64 0 0))] [(0,(.tmp 64))])),aa 66 0,aD 67 220 [66],((some 68),.op (.app 2 32 (.tmp 65) (.tmp 67))),((some 69),.op (.build [(.val (.int .i64 0)),(.emp 1)] [(0,1,(.tmp 63)),(1,1,(.tmp 68))])),((some 70),.op (.bz 1 2 [(.val (.int .i64 0)),(.emp 1)] [(0,(.tmp 69))])),((some 71),.op (.app 2 32 (.tmp 62) (.tmp 70))),aa 3 71]⟩])
def fT:DF:=⟨.seq (ah [((some 2),.op (.bc (.val (.emp 1))))]) <|
  .seq (ah [((some 3),.op (.bc (.val (.emp 1))))]) <|
  .seq (.block 0 (.loop j8)) <|
  .seq (ah [aa 72 3,aa 2 72]) <|
  .ret,
  [.tmp 2],73⟩
theorem jQ:aF Tryz.prog 180 []=some fT:=by kernel_rfl
def o6:DC :=
  .seq (.seq (.region [] [⟨none,[aa 17 6,an 18 1 1,ar 19 18,aR 20 19,aQ 21 .lss 17 20,aa 22 21]⟩,⟨(some (22,true)),[aa 23 5,bp 24 23,an 25 10 24,ar 26 25,aw 27 .eql 26 0]⟩,⟨none,[bq 28 22 27]⟩]) <|
  .cond (.tmp 28) (.skip) (.exit 0)) <|
  .seq (.block 1 (ah [aa 31 5,an 32 1 1,ar 33 32,aa 34 6,ba 35 5 33 34,aO 36 5 35,aD 37 138 [31,36]])) <|
  ah [aa 29 6,aw 30 .add 29 1,aa 6 30]
def jZ:DF:=⟨.seq (ah [c5 1 0,((some 2),.op (.alloc [(.emp 1),(.emp 1),(.emp 1),(.val (.int .i64 0))])),((some 3),.op (.bc (.val (.val (.complex .f64 0 0))))),aA 4 0]) <|
  .seq (.region [] [⟨none,[((some 7),.op (.build [(.emp 1),(.emp 1),(.emp 1),(.val (.int .i64 0)),(.emp 1),(.val (.string ⟨#[]⟩)),(.val (.complex .f64 0 0)),(.val (.bool false)),(.val (.int .i64 0)),(.val (.complex .f64 0 0)),(.val (.int .i64 0))] [])),((some 8),.op (.box (.tmp 7))),aa 5 8]⟩]) <|
  .seq (ah [aa 9 5,an 10 0 1,ar 11 10,aD 12 136 [9,11]]) <|
  .seq (ah [aa 13 5,an 14 1 1,ar 15 14,aD 16 137 [13,15]]) <|
  .seq (.seq (ah [aA 6 0]) <|
  .block 0 (.loop o6)) <|
  .seq (.seq (.region [] [⟨none,[aa 38 5,bp 39 38,an 40 7 39,ar 41 40,aa 42 41]⟩,⟨(some (42,true)),[aa 43 5,bp 44 43,an 45 0 44,aO 46 4 45,aa 47 5,bp 48 47,an 49 5 48,an 50 0 49,ar 51 50,aD 52 139 [46,51],aw 53 .lss 52 0]⟩,⟨none,[bq 54 42 53]⟩]) <|
  .cond (.tmp 54) (ah [aa 55 5,aa 56 5,bp 57 56,an 58 5 57,aO 59 2 58,cn 60 140 [(.tmp 55),(.tmp 59),(.val (.val (.int .i64 8)))]]) (.skip)) <|
  .seq (.seq (ah [an 61 1 1,ar 62 61,aR 63 62,aw 64 .eql 63 0]) <|
  .cond (.tmp 64) (.region [] [⟨none,[aa 65 5,((some 66),.op (.build [(.val (.string ⟨#[]⟩)),(.val (.complex .f64 0 0))] [])),cn 67 140 [(.tmp 65),(.tmp 66),(.val (.val (.int .i64 8)))]]⟩]) (.skip)) <|
  .seq (.seq (ah [aa 68 5,bp 69 68,an 70 10 69,ar 71 70,aw 72 .neq 71 0]) <|
  .cond (.tmp 72) (.seq (.region [(4,9),(8,9)] [⟨none,[((some 73),.op (.build [(.emp 1),(.emp 1),(.emp 1),(.val (.int .i64 0))] [])),aa 74 5,bp 75 74,an 76 9 75,ar 77 76,aa 78 5,bp 79 78,an 80 10 79,ar 81 80,(none,.op (.store 4 (.tmp 2) (.tmp 73))),aa 3 77,aa 4 81]⟩]) <|
  .ret) (.skip)) <|
  .seq (.seq (ah [aa 82 5,bp 83 82,an 84 7 83,ar 85 84]) <|
  .cond (.tmp 85) (ah [aa 86 5,aa 87 5,bp 88 87,an 89 0 88,aO 90 4 89,aa 91 5,bp 92 91,an 93 5 92,an 94 0 93,ar 95 94,aD 96 139 [90,95],bp 97 86,an 98 0 97,an 99 3 98,(none,.op (.store 1 (.tmp 99) (.tmp 96)))]) (.skip)) <|
  .seq (ah [aa 100 5,bp 101 100,an 102 0 101,aO 103 4 102,(none,.op (.store 4 (.tmp 2) (.tmp 103))),((some 3),.op (.bc (.val (.val (.complex .f64 0 0))))),aA 4 0]) <|
  .ret,
  [.cell 2 (some 4),.tmp 3,.tmp 4],104⟩
theorem n0:aF Tryz.prog 95 [1]=some jZ:=by kernel_rfl
def lT:DC :=
  .seq (.seq (.region [] [⟨none,[aa 28 5,an 29 2 3,ar 30 29,aR 31 30,aQ 32 .lss 28 31,aa 33 32]⟩,⟨(some (33,true)),[aa 34 0,bp 35 34,an 36 10 35,ar 37 36,aw 38 .eql 37 0]⟩,⟨none,[bq 39 33 38]⟩]) <|
  .cond (.tmp 39) (.skip) (.exit 0)) <|
  .seq (.block 1 (.seq (.region [] [⟨none,[an 42 2 3,ar 43 42,aa 44 5,ba 45 2 43 44,aO 46 2 45,((some 6),.op (.alloc [(.val (.string ⟨#[]⟩)),(.val (.complex .f64 0 0))])),(none,.op (.store 2 (.tmp 6) (.tmp 46)))]⟩]) <|
  .seq (.seq (ah [an 47 0 6,ar 48 47,aD 49 151 [48],cw 50 49]) <|
  .cond (.tmp 50) (.seq (ah [aa 51 0,aO 52 2 6,cn 53 140 [(.tmp 51),(.tmp 52),(.val (.val (.int .i64 3)))]]) <|
  .ret) (.skip)) <|
  .seq (.seq (ah [aa 54 5,aw 55 .eql 54 6]) <|
  .cond (.tmp 55) (.seq (ah [aa 56 0,aO 57 2 6,cn 58 140 [(.tmp 56),(.tmp 57),(.val (.val (.int .i64 5)))]]) <|
  .ret) (.skip)) <|
  .seq (ah [aa 59 0,aO 60 2 6,cn 61 186 [(.tmp 59),(.tmp 60),(.val (.val (.bool true)))],aa 7 61]) <|
  .seq (ah [an 62 1 4,ar 63 62,aa 64 7,((some 65),.op (.bz 1 1 [(.val (.int .i64 0))] [(0,(.tmp 64))])),((some 66),.op (.app 1 8 (.tmp 63) (.tmp 65))),an 67 1 4,(none,.op (.store 1 (.tmp 67) (.tmp 66)))]) <|
  .seq (ah [aa 68 7,aw 69 .geq 68 0]) <|
  .cond (.tmp 69) (ah [aa 70 7,an 71 2 4,(none,.op (.store 1 (.tmp 71) (.tmp 70)))]) (.skip))) <|
  ah [aa 40 5,aw 41 .add 40 1,aa 5 41]
def ib:DF:=⟨.seq (ah [c5 3 1]) <|
  .seq (.region [(7,9)] [⟨none,[aa 8 0,bp 9 8,an 10 0 9,aO 11 4 10,an 12 0 3,an 13 0 12,ar 14 13,aD 15 139 [11,14],((some 16),.op (.build [(.val (.int .i64 0)),(.emp 1),(.val (.int .i64 0))] [(0,1,(.tmp 15)),(2,1,(.val (.val (.int .i64 (-1)))))])),((some 4),.op (.alloc [(.val (.int .i64 0)),(.emp 1),(.val (.int .i64 0))])),(none,.op (.store 3 (.tmp 4) (.tmp 16)))]⟩]) <|
  .seq (.seq (ah [aa 17 0,bp 18 17,an 19 0 18,an 20 2 19,ar 21 20,aR 22 21,aw 23 .eql 22 40]) <|
  .cond (.tmp 23) (ah [aa 24 0,an 25 0 3,aO 26 2 25,cn 27 140 [(.tmp 24),(.tmp 26),(.val (.val (.int .i64 5)))]]) (.skip)) <|
  .seq (.seq (ah [aA 5 0]) <|
  .block 0 (.loop lT)) <|
  .seq (.seq (.region [] [⟨none,[an 72 3 3,an 73 0 72,ar 74 73,((some 75),.op (.hZ .neq (.tmp 74) (.val (.val (.string ⟨#[]⟩))))),aa 76 75]⟩,⟨(some (76,true)),[aa 77 0,bp 78 77,an 79 10 78,ar 80 79,aw 81 .eql 80 0]⟩,⟨none,[bq 82 76 81]⟩]) <|
  .cond (.tmp 82) (.seq (.seq (ah [an 83 3 3,an 84 0 83,ar 85 84,aD 86 151 [85],cw 87 86]) <|
  .cond (.tmp 87) (.seq (ah [aa 88 0,an 89 3 3,aO 90 2 89,cn 91 140 [(.tmp 88),(.tmp 90),(.val (.val (.int .i64 3)))]]) <|
  .ret) (.skip)) <|
  ah [aa 92 0,an 93 3 3,aO 94 2 93,cn 95 186 [(.tmp 92),(.tmp 94),(.val (.val (.bool false)))],an 96 2 4,(none,.op (.store 1 (.tmp 96) (.tmp 95)))]) (.skip)) <|
  ah [aa 97 0,aa 98 0,bp 99 98,an 100 0 99,an 101 2 100,ar 102 101,aO 103 3 4,((some 104),.op (.bz 1 3 [(.val (.int .i64 0)),(.emp 1),(.val (.int .i64 0))] [(0,(.tmp 103))])),((some 105),.op (.app 3 40 (.tmp 102) (.tmp 104))),bp 106 97,an 107 0 106,an 108 2 107,(none,.op (.store 1 (.tmp 108) (.tmp 105)))],
  [],109⟩
theorem lz:aF Tryz.prog 138 [3]=some ib:=by kernel_rfl
def jX:DF:=⟨.seq (ah [aY 2 false]) <|
  .seq (.region [] [⟨none,[aa 3 0,aD 4 154 [3],aa 5 4]⟩,⟨(some (5,false)),[aa 6 0,aD 7 192 [6]]⟩,⟨none,[bV 8 5 7,aa 2 8]⟩]) <|
  .ret,
  [.tmp 2],9⟩
theorem nM:aF Tryz.prog 151 []=some jX:=by kernel_rfl
def pU:DC :=
  .seq (.seq (ah [aa 18 3,aa 19 0,((some 20),.op (.ik (.tmp 19))),aQ 21 .lss 18 20]) <|
  .cond (.tmp 21) (.skip) (.exit 0)) <|
  .seq (.block 1 (.seq (ah [aa 24 0,aa 25 3,((some 26),.op (.ee (.tmp 24) (.tmp 25))),aD 27 194 [26],cw 28 27]) <|
  .cond (.tmp 28) (.seq (ah [aY 2 false]) <|
  .ret) (.skip))) <|
  ah [aa 22 3,aw 23 .add 22 1,aa 3 23]
def lk:DF:=⟨.seq (ah [aY 2 false]) <|
  .seq (.seq (.region [] [⟨none,[aa 4 0,((some 5),.op (.ik (.tmp 4))),aw 6 .eql 5 0,aa 7 6]⟩,⟨(some (7,false)),[aa 8 0,((some 9),.op (.ik (.tmp 8))),aw 10 .gtr 9 20]⟩,⟨none,[bV 11 7 10,aa 12 11]⟩,⟨(some (12,false)),[aa 13 0,((some 14),.op (.ee (.tmp 13) (.val (.val (.int .i64 0))))),aD 15 193 [14],cw 16 15]⟩,⟨none,[bV 17 12 16]⟩]) <|
  .cond (.tmp 17) (.seq (ah [aY 2 false]) <|
  .ret) (.skip)) <|
  .seq (.seq (ah [aA 3 0]) <|
  .block 0 (.loop pU)) <|
  .seq (ah [aY 2 true]) <|
  .ret,
  [.tmp 2],29⟩
theorem oR:aF Tryz.prog 154 []=some lk:=by kernel_rfl
def ia:DF:=⟨.seq (ah [c5 4 1]) <|
  .seq (ah [aa 6 0,bp 7 6,an 8 10 7,ar 9 8,aw 10 .eql 9 0]) <|
  .cond (.tmp 10) (ah [aa 11 0,aa 12 0,an 13 1 4,ar 14 13,aa 15 2,bp 16 11,an 17 9 16,(none,.op (.store 1 (.tmp 17) (.tmp 14))),bp 18 12,an 19 10 18,(none,.op (.store 1 (.tmp 19) (.tmp 15)))]) (.skip),
  [],20⟩
theorem ly:aF Tryz.prog 140 [4]=some ia:=by kernel_rfl
def gA:DF:=⟨.seq (ah [c5 4 1,aA 6 0]) <|
  .seq (ah [aa 8 0,bp 9 8,an 10 0 9,aO 11 4 10,an 12 0 4,ar 13 12,aD 14 139 [11,13],aa 7 14]) <|
  .seq (.block 0 (.seq (.region [] [⟨none,[aa 19 7,aw 20 .geq 19 0,aa 21 20]⟩,⟨(some (21,true)),[aa 22 2]⟩,⟨none,[bq 23 21 22,aa 18 23]⟩]) <|
  .cond (.tmp 18) (.seq (ah [aa 24 7,((some 25),.op (.arith .sub (.val (.val (.int .i64 (-1)))) (.tmp 24))),aa 6 25]) <|
  .ret) (.seq (ah [aa 27 7,aw 28 .geq 27 0,aa 26 28]) <|
  .cond (.tmp 26) (ah [aa 29 0,aO 30 2 4,cn 31 140 [(.tmp 29),(.tmp 30),(.val (.val (.int .i64 6)))]]) (.seq (.region [] [⟨none,[aa 33 0,bp 34 33,an 35 0 34,aO 36 4 35,an 37 0 4,ar 38 37,aD 39 152 [36,38],aw 40 .geq 39 0,aa 41 40]⟩,⟨(some (41,false)),[an 42 0 4,ar 43 42,aD 44 192 [43]]⟩,⟨none,[bV 45 41 44,aa 46 45]⟩,⟨(some (46,false)),[an 47 0 4,ar 48 47,((some 49),.op (.hZ .eql (.tmp 48) (.val (.val (.string ⟨#[101,114,114,111,114]⟩)))))]⟩,⟨none,[bV 50 46 49,aa 32 50]⟩]) <|
  .cond (.tmp 32) (.seq (ah [aa 51 0,aO 52 2 4,aD 53 223 [51,52],aa 6 53]) <|
  .ret) (ah [aa 15 0,aO 16 2 4,cn 17 140 [(.tmp 15),(.tmp 16),(.val (.val (.int .i64 6)))]]))))) <|
  .seq (ah [aA 6 0]) <|
  .ret,
  [.tmp 6],54⟩
theorem j6:aF Tryz.prog 186 [4]=some gA:=by kernel_rfl
def qE:DC :=
  .seq (.seq (ah [aa 6 5,an 7 1 2,ar 8 7,aR 9 8,aQ 10 .lss 6 9]) <|
  .cond (.tmp 10) (.skip) (.exit 0)) <|
  .seq (.block 1 (.seq (ah [an 13 1 2,ar 14 13,aa 15 5,ba 16 1 14 15,ar 17 16,aa 18 1,((some 19),.op (.hZ .eql (.tmp 17) (.tmp 18)))]) <|
  .cond (.tmp 19) (.seq (ah [aa 20 5,aa 4 20]) <|
  .ret) (.skip))) <|
  ah [aa 11 5,aw 12 .add 11 1,aa 5 12]
def lG:DF:=⟨.seq (ah [c5 2 0,aA 4 0]) <|
  .seq (.seq (ah [aA 5 0]) <|
  .block 0 (.loop qE)) <|
  .seq (ah [aA 4 (-1)]) <|
  .ret,
  [.tmp 4],21⟩
theorem qg:aF Tryz.prog 139 [2]=some lG:=by kernel_rfl
def pz:DC :=
  .seq (.seq (ah [aa 6 5,an 7 0 2,ar 8 7,aR 9 8,aQ 10 .lss 6 9]) <|
  .cond (.tmp 10) (.skip) (.exit 0)) <|
  .seq (.block 1 (.seq (ah [an 13 0 2,ar 14 13,aa 15 5,ba 16 3 14 15,an 17 0 16,ar 18 17,aa 19 1,((some 20),.op (.hZ .eql (.tmp 18) (.tmp 19)))]) <|
  .cond (.tmp 20) (.seq (ah [aa 21 5,aa 4 21]) <|
  .ret) (.skip))) <|
  ah [aa 11 5,aw 12 .add 11 1,aa 5 12]
def kS:DF:=⟨.seq (ah [c5 2 0,aA 4 0]) <|
  .seq (.seq (ah [aA 5 0]) <|
  .block 0 (.loop pz)) <|
  .seq (ah [aA 4 (-1)]) <|
  .ret,
  [.tmp 4],22⟩
theorem o8:aF Tryz.prog 152 [2]=some kS:=by kernel_rfl
def fI:DF:=⟨.seq (ah [c5 3 1,aA 4 0]) <|
  .seq (ah [aa 6 0,bp 7 6,an 8 0 7,aO 9 4 8,an 10 0 3,ar 11 10,aD 12 152 [9,11],aa 5 12]) <|
  .seq (.seq (ah [aa 13 5,aw 14 .geq 13 0]) <|
  .cond (.tmp 14) (.seq (ah [aa 15 5,aa 4 15]) <|
  .ret) (.skip)) <|
  .seq (.seq (ah [aa 16 0,bp 17 16,an 18 0 17,an 19 0 18,ar 20 19,aR 21 20,aw 22 .eql 21 24]) <|
  .cond (.tmp 22) (.seq (ah [aa 23 0,aO 24 2 3,cn 25 140 [(.tmp 23),(.tmp 24),(.val (.val (.int .i64 5)))]]) <|
  .seq (ah [aA 4 0]) <|
  .ret) (.skip)) <|
  .seq (.region [] [⟨none,[aa 26 0,aa 27 0,bp 28 27,an 29 0 28,an 30 0 29,ar 31 30,an 32 0 3,ar 33 32,((some 34),.op (.build [(.val (.string ⟨#[]⟩)),(.val (.int .i64 0)),(.val (.int .i64 0))] [(0,1,(.tmp 33))])),((some 35),.op (.bz 1 3 [(.val (.string ⟨#[]⟩)),(.val (.int .i64 0)),(.val (.int .i64 0))] [(0,(.tmp 34))])),((some 36),.op (.app 3 32 (.tmp 31) (.tmp 35))),bp 37 26,an 38 0 37,an 39 0 38,(none,.op (.store 1 (.tmp 39) (.tmp 36)))]⟩]) <|
  .seq (ah [aa 40 0,bp 41 40,an 42 0 41,an 43 0 42,ar 44 43,aR 45 44,aw 46 .sub 45 1,aa 4 46]) <|
  .ret,
  [.tmp 4],47⟩
theorem jk:aF Tryz.prog 223 [3]=some fI:=by kernel_rfl
def lp:DC :=
  .seq (.seq (.region [] [⟨none,[aa 60 7,an 61 1 5,ar 62 61,aR 63 62,aQ 64 .lss 60 63,aa 65 64]⟩,⟨(some (65,true)),[aa 66 0,bp 67 66,an 68 10 67,ar 69 68,aw 70 .eql 69 0]⟩,⟨none,[bq 71 65 70]⟩]) <|
  .cond (.tmp 71) (.skip) (.exit 2)) <|
  .seq (.block 3 (ah [aa 74 0,an 75 0 5,ar 76 75,an 77 1 5,ar 78 77,aa 79 7,ba 80 2 78 79,aO 81 2 80,aD 82 185 [74,76,81]])) <|
  ah [aa 72 7,aw 73 .add 72 1,aa 7 73]
def lC:DC :=
  .seq (.seq (.region [] [⟨none,[aa 8 4,aa 9 1,aR 10 9,aQ 11 .lss 8 10,aa 12 11]⟩,⟨(some (12,true)),[aa 13 0,bp 14 13,an 15 10 14,ar 16 15,aw 17 .eql 16 0]⟩,⟨none,[bq 18 12 17]⟩]) <|
  .cond (.tmp 18) (.skip) (.exit 0)) <|
  .seq (.block 1 (.seq (ah [aa 21 1,aa 22 4,ba 23 2 21 22,aO 24 2 23,((some 5),.op (.alloc [(.val (.int .i64 0)),(.emp 1)])),(none,.op (.store 2 (.tmp 5) (.tmp 24)))]) <|
  .seq (.seq (.region [] [⟨none,[an 25 0 5,ar 26 25,aw 27 .lss 26 3,aa 28 27]⟩,⟨(some (28,false)),[an 29 0 5,ar 30 29,aw 31 .gtr 30 7]⟩,⟨none,[bV 32 28 31]⟩]) <|
  .cond (.tmp 32) (.seq (.region [] [⟨none,[((some 33),.op (.build [(.val (.string ⟨#[]⟩)),(.val (.complex .f64 0 0))] [])),((some 6),.op (.alloc [(.val (.string ⟨#[]⟩)),(.val (.complex .f64 0 0))])),(none,.op (.store 2 (.tmp 6) (.tmp 33)))]⟩]) <|
  .seq (.seq (ah [an 34 1 5,ar 35 34,aR 36 35,aw 37 .gtr 36 0]) <|
  .cond (.tmp 37) (ah [an 38 1 5,ar 39 38,((some 40),.op (.idx 2 (.tmp 39) (.val (.val (.int .i64 0))))),aO 41 2 40,(none,.op (.store 2 (.tmp 6) (.tmp 41)))]) (.skip)) <|
  .seq (ah [aa 42 0,aO 43 2 6,cn 44 140 [(.tmp 42),(.tmp 43),(.val (.val (.int .i64 3)))]]) <|
  .ret) (.skip)) <|
  .seq (.seq (.region [] [⟨none,[an 45 0 5,ar 46 45,aw 47 .neq 46 3,aa 48 47]⟩,⟨(some (48,true)),[an 49 0 5,ar 50 49,aw 51 .neq 50 7]⟩,⟨none,[bq 52 48 51]⟩]) <|
  .cond (.tmp 52) (ah [aa 53 0,bp 54 53,an 55 8 54,ar 56 55,aw 57 .add 56 1,bp 58 53,an 59 8 58,(none,.op (.store 1 (.tmp 59) (.tmp 57)))]) (.skip)) <|
  .seq (ah [aA 7 0]) <|
  .block 2 (.loop lp))) <|
  ah [aa 19 4,aw 20 .add 19 1,aa 4 20]
def gM:DF:=⟨.seq (ah [aA 4 0]) <|
  .block 0 (.loop lC),
  [],83⟩
theorem kQ:aF Tryz.prog 136 []=some gM:=by kernel_rfl
def fU:DF:=⟨.seq (ah [c5 5 2]) <|
  .block 0 (.seq (.region [] [⟨none,[an 63 0 5,ar 64 63,aD 65 151 [64],cw 66 65,aa 67 66]⟩,⟨(some (67,false)),[aa 68 1,aw 69 .eql 68 7,aa 70 69]⟩,⟨(some (70,true)),[an 71 0 5,ar 72 71,aD 73 154 [72],cw 74 73]⟩,⟨(some (67,false)),[bq 75 70 74]⟩,⟨none,[bV 76 67 75,aa 62 76]⟩]) <|
  .cond (.tmp 62) (ah [aa 77 0,aO 78 2 5,cn 79 140 [(.tmp 77),(.tmp 78),(.val (.val (.int .i64 3)))]]) (.seq (ah [aa 81 1,aw 82 .eql 81 7,aa 80 82]) <|
  .cond (.tmp 80) (.seq (.seq (ah [aa 83 0,bp 84 83,an 85 7 84,ar 86 85]) <|
  .cond (.tmp 86) (ah [aa 87 0,aO 88 2 5,cn 89 140 [(.tmp 87),(.tmp 88),(.val (.val (.int .i64 7)))]]) (.skip)) <|
  ah [aa 90 0,aa 91 0,aO 92 2 5,bp 93 90,an 94 5 93,(none,.op (.store 2 (.tmp 94) (.tmp 92))),bp 95 91,an 96 7 95,(none,.op (.store 1 (.tmp 96) (.val (.val (.bool true)))))]) (.seq (ah [aa 98 1,aw 99 .eql 98 3,aa 97 99]) <|
  .cond (.tmp 97) (.seq (.seq (ah [aa 100 0,bp 101 100,an 102 4 101,ar 103 102,an 104 0 5,ar 105 104,aD 106 222 [103,105]]) <|
  .cond (.tmp 106) (ah [aa 107 0,aO 108 2 5,cn 109 140 [(.tmp 107),(.tmp 108),(.val (.val (.int .i64 7)))]]) (.skip)) <|
  .seq (.region [] [⟨none,[aa 110 0,aa 111 0,bp 112 111,an 113 4 112,ar 114 113,an 115 0 5,ar 116 115,((some 117),.op (.bz 1 1 [(.val (.string ⟨#[]⟩))] [(0,(.tmp 116))])),((some 118),.op (.app 1 16 (.tmp 114) (.tmp 117))),bp 119 110,an 120 4 119,(none,.op (.store 1 (.tmp 120) (.tmp 118)))]⟩]) <|
  ah [aa 121 0,aO 122 2 5,aD 123 223 [121,122]]) (.seq (ah [aa 7 0,bp 8 7,an 9 0 8,aO 10 4 9,an 11 0 5,ar 12 11,aD 13 152 [10,12],aa 6 13]) <|
  .seq (.seq (.region [] [⟨none,[aa 14 6,aw 15 .geq 14 0,aa 16 15]⟩,⟨(some (16,true)),[aa 17 0,bp 18 17,an 19 0 18,an 20 0 19,ar 21 20,aa 22 6,ba 23 3 21 22,an 24 1 23,ar 25 24,aw 26 .gtr 25 0]⟩,⟨none,[bq 27 16 26]⟩]) <|
  .cond (.tmp 27) (.seq (ah [aa 28 0,aO 29 2 5,cn 30 140 [(.tmp 28),(.tmp 29),(.val (.val (.int .i64 7)))]]) <|
  .ret) (.skip)) <|
  .seq (ah [aa 31 0,aO 32 2 5,aD 33 223 [31,32],aa 6 33]) <|
  .seq (ah [aa 34 0,bp 35 34,an 36 10 35,ar 37 36,aw 38 .eql 37 0]) <|
  .cond (.tmp 38) (ah [aa 39 0,bp 40 39,an 41 0 40,an 42 0 41,ar 43 42,aa 44 6,aa 45 0,bp 46 45,an 47 0 46,an 48 0 47,ar 49 48,aa 50 6,aa 51 0,bp 52 51,an 53 8 52,ar 54 53,aa 55 1,aw 56 .sub 55 4,aw 57 .add 56 1,ba 58 3 43 44,an 59 1 58,(none,.op (.store 1 (.tmp 59) (.tmp 54))),ba 60 3 49 50,an 61 2 60,(none,.op (.store 1 (.tmp 61) (.tmp 57)))]) (.skip))))),
  [],124⟩
theorem jO:aF Tryz.prog 185 [5]=some fU:=by kernel_rfl
def qJ:DC :=
  .seq (.seq (ah [aa 6 5,aa 7 0,aR 8 7,aQ 9 .lss 6 8]) <|
  .cond (.tmp 9) (.skip) (.exit 0)) <|
  .seq (.block 1 (.seq (ah [aa 12 0,aa 13 5,ba 14 1 12 13,ar 15 14,aa 16 1,((some 17),.op (.hZ .eql (.tmp 15) (.tmp 16)))]) <|
  .cond (.tmp 17) (.seq (ah [aY 4 true]) <|
  .ret) (.skip))) <|
  ah [aa 10 5,aw 11 .add 10 1,aa 5 11]
def lH:DF:=⟨.seq (ah [aY 4 false]) <|
  .seq (.seq (ah [aA 5 0]) <|
  .block 0 (.loop qJ)) <|
  .seq (ah [aY 4 false]) <|
  .ret,
  [.tmp 4],18⟩
theorem pO:aF Tryz.prog 222 []=some lH:=by kernel_rfl
def lx:DC :=
  .seq (.seq (.region [] [⟨none,[aa 6 4,aa 7 1,aR 8 7,aQ 9 .lss 6 8,aa 10 9]⟩,⟨(some (10,true)),[aa 11 0,bp 12 11,an 13 10 12,ar 14 13,aw 15 .eql 14 0]⟩,⟨none,[bq 16 10 15]⟩]) <|
  .cond (.tmp 16) (.skip) (.exit 0)) <|
  .seq (.block 1 (.seq (.region [] [⟨none,[aa 19 1,aa 20 4,ba 21 5 19 20,an 22 0 21,aO 23 2 22,((some 5),.op (.alloc [(.val (.string ⟨#[]⟩)),(.val (.complex .f64 0 0))])),(none,.op (.store 2 (.tmp 5) (.tmp 23)))]⟩]) <|
  .block 2 (.seq (ah [an 38 0 5,ar 39 38,aD 40 154 [39],cw 41 40,aa 37 41]) <|
  .cond (.tmp 37) (ah [aa 42 0,aO 43 2 5,cn 44 140 [(.tmp 42),(.tmp 43),(.val (.val (.int .i64 3)))]]) (.seq (ah [aa 46 0,bp 47 46,an 48 0 47,aO 49 4 48,an 50 0 5,ar 51 50,aD 52 152 [49,51],aw 53 .geq 52 0,aa 45 53]) <|
  .cond (.tmp 45) (ah [aa 54 0,aO 55 2 5,cn 56 140 [(.tmp 54),(.tmp 55),(.val (.val (.int .i64 7)))]]) (.seq (ah [aa 58 0,bp 59 58,an 60 0 59,aO 61 4 60,an 62 0 5,ar 63 62,aD 64 139 [61,63],aw 65 .geq 64 0,aa 57 65]) <|
  .cond (.tmp 57) (.skip) (.seq (ah [aa 67 0,bp 68 67,an 69 0 68,an 70 1 69,ar 71 70,aR 72 71,aw 73 .eql 72 16,aa 66 73]) <|
  .cond (.tmp 66) (ah [aa 74 0,aO 75 2 5,cn 76 140 [(.tmp 74),(.tmp 75),(.val (.val (.int .i64 5)))]]) (.region [] [⟨none,[aa 24 0,aa 25 0,bp 26 25,an 27 0 26,an 28 1 27,ar 29 28,an 30 0 5,ar 31 30,((some 32),.op (.bz 1 1 [(.val (.string ⟨#[]⟩))] [(0,(.tmp 31))])),((some 33),.op (.app 1 16 (.tmp 29) (.tmp 32))),bp 34 24,an 35 0 34,an 36 1 35,(none,.op (.store 1 (.tmp 36) (.tmp 33)))]⟩]))))))) <|
  ah [aa 17 4,aw 18 .add 17 1,aa 4 18]
def gC:DF:=⟨.seq (ah [aA 4 0]) <|
  .block 0 (.loop lx),
  [],77⟩
theorem kR:aF Tryz.prog 137 []=some gC:=by kernel_rfl
def wg:List (FuncId × DF):=[(49,lg),(94,jT),(134,jo),(177,lh),(212,lI),(213,kL),(214,kV),(215,jj),(232,jv),(178,mO),(216,ml),(179,lF),(194,jW),(193,j4),(192,jd),(217,iY),(218,ja),(219,kO),(135,mD),(183,gw),(182,fX),(220,gp),(221,ic),(181,gq),(184,gu),(180,fT),(95,jZ),(138,ib),(151,jX),(154,lk),(140,ia),(186,gA),(139,lG),(152,kS),(223,fI),(136,gM),(185,fU),(222,lH),(137,gC)]
theorem C8:pg Tryz.prog wg:=by
  intro p hp
  simp only[wg,List.mem_cons,List.not_mem_nil,or_false] at hp
  rcases hp with rfl | rfl | rfl | rfl | rfl | rfl | rfl | rfl | rfl | rfl | rfl | rfl | rfl | rfl | rfl | rfl | rfl | rfl | rfl | rfl | rfl | rfl | rfl | rfl | rfl | rfl | rfl | rfl | rfl | rfl | rfl | rfl | rfl | rfl | rfl | rfl | rfl | rfl | rfl
  · exact ⟨_,oE⟩
  · exact ⟨_,nO⟩
  · exact ⟨_,mW⟩
  · exact ⟨_,oz⟩
  · exact ⟨_,pt⟩
  · exact ⟨_,ov⟩
  · exact ⟨_,oI⟩
  · exact ⟨_,mV⟩
  · exact ⟨_,mX⟩
  · exact ⟨_,qI⟩
  · exact ⟨_,qN⟩
  · exact ⟨_,p8⟩
  · exact ⟨_,nX⟩
  · exact ⟨_,nU⟩
  · exact ⟨_,mR⟩
  · exact ⟨_,mN⟩
  · exact ⟨_,mg⟩
  · exact ⟨_,o9⟩
  · exact ⟨_,qH⟩
  · exact ⟨_,kf⟩
  · exact ⟨_,jR⟩
  · exact ⟨_,j9⟩
  · exact ⟨_,lE⟩
  · exact ⟨_,ka⟩
  · exact ⟨_,kh⟩
  · exact ⟨_,jQ⟩
  · exact ⟨_,n0⟩
  · exact ⟨_,lz⟩
  · exact ⟨_,nM⟩
  · exact ⟨_,oR⟩
  · exact ⟨_,ly⟩
  · exact ⟨_,j6⟩
  · exact ⟨_,qg⟩
  · exact ⟨_,o8⟩
  · exact ⟨_,jk⟩
  · exact ⟨_,kQ⟩
  · exact ⟨_,jO⟩
  · exact ⟨_,pO⟩
  · exact ⟨_,kR⟩
def y5 (l:List Int):V:=.aI (l.map fun x=>[gy x])
theorem E1 (l:List Int):Tree (y5 l):=di _ _ fun x _ v hv=>by simp at hv; subst hv; exact .val _
def sJ (g:al):V:=.aV [.agg (aX g),.val (.complex .f64 0 0),gi 0]
theorem Ib {l:List Int} {g:al} (h:sF Tryz.prog wg (fun _ _ _=>none) 49 [y5 l]=some (sJ g)):dJ Tryz.prog 49 [y5 l] (sJ g) :=
  qb mixed C8 (Hn _) (by intro v hv; simp at hv; subst hv; exact E1 _) h
abbrev cG (κ:Type):=List (κ × V × Nat)
def de {κ:Type} (key:κ→Value) (m:cG κ):List (V × V × Nat):=m.map fun x=>(.val (key x.1),x.2.1,x.2.2)
def getM {κ:Type} [BEq κ] (m:cG κ) (k:κ):Option V:=(m.find? fun x=>k == x.1).map (·.2.1)
def cJ {κ:Type} [BEq κ] (k:κ) (v:V) (c:Nat):cG κ→cG κ
  | []=>[(k,v,c)]
  | x :: r=>if k == x.1 then (k,v,x.2.2) :: r else x :: cJ k v c r
structure w8 {κ:Type} [BEq κ] (P:Program) (kt:TypeId) (key:κ→Value):Prop where
  ty:∃ d,P.underlying kt=some d∧(∀ a b,Instr.sameNow d (key a) (key b)=some (a == b))∧(∀ a e,aW P (Instr.checkKey e 10000 kt (key a))=some ())
  bits:∀ a b,(a == b)=true→Instr.sameBits 10000 (key b) (key a)=true
theorem oM {κ:Type} (key:κ→Value):∀ m:cG κ,fK (de key m)=some (m.map fun x=>{ key:=key x.1,val:=.nilFunc,born:=x.2.2 })
  | []=>rfl
  | x :: r=>by
    have:=oM key r
    simp only[de] at this
    simp[de,fK,bR,this]
def gL {κ:Type} [BEq κ] (k:κ):cG κ→Option Nat
  | []=>none
  | x :: r=>if k == x.1 then some 0 else (gL k r).map (·+1)
theorem tf {κ:Type} [BEq κ] {key:κ→Value} {d:TypeDesc} (h:∀ a b,Instr.sameNow d (key a) (key b)=some (a == b)) (k:κ):∀ (m:cG κ) (i:Nat),
    Instr.findNow d (key k) (m.map fun x=>{ key:=key x.1,val:=.nilFunc,born:=x.2.2 }) i=some ((gL k m).map fun j=>(i+j,.nilFunc))
  | [],i=>rfl
  | x :: r,i=>by
    simp only[List.map_cons,Instr.findNow,h,gL]
    cases hk:k == x.1 with
    | true=>simp
    | false =>
      simp only[tf h k r (i+1),Bool.false_eq_true,if_false,Option.map_map]
      congr 2
      funext j
      simp only[Function.comp]
      congr 1
      omega
theorem rW {κ:Type} [BEq κ] {P:Program} {kt:TypeId} {key:κ→Value} (h:w8 P kt key) (k:κ) (e:Bool) (m:cG κ):jx P kt (.val (key k)) e (de key m)=some (gL k m):=by
  obtain ⟨d,hd,hn,hc⟩:=h.ty
  have hu:aW P (underlying kt)=some d:=c4 hd
  simp only[jx,bR,oM,aP,hc,Option.bind_some]
  have:aW P (Instr.findKey kt (key k) (m.map fun x=>{ key:=key x.1,val:=.nilFunc,born:=x.2.2 }))=some ((gL k m).map fun j=>(0+j,.nilFunc)):=by
    unfold Instr.findKey
    rw[aP,hu,Option.bind_some,tf hn]
    rfl
  rw[this]
  cases gL k m with
  | none=>rfl
  | some j=>simp
theorem CW {P:Program} {kt:TypeId} {d:TypeDesc} (h:P.underlying kt=some d) (hd:match d with | .int _ | .string | .bool=>True | _=>False) (e:Bool) (n:Nat) (v:Value):aW P (Instr.checkKey e (n+1) kt v)=some ():=by
  unfold Instr.checkKey
  rw[aP,c4 h,Option.bind_some]
  cases d <;> first | exact hd.elim | rfl
theorem kZ {P:Program} {kt:TypeId} (k:IntKind) (h:P.underlying kt=some (.int k)):w8 P kt (Value.int k) where
  ty:=⟨_,h,fun a b=>by simp[Instr.sameNow],fun a e=>CW h trivial e 9999 _⟩
  bits:=fun a b hab=>by
    have:a=b:=by simpa using hab
    subst this
    simp[Instr.sameBits]
theorem pj {κ:Type} [BEq κ] {key:κ→Value} (k:κ):∀ m:cG κ,match gL k m with
    | some i=>∃ x,m[i]?=some x∧(k == x.1)=true∧getM m k=some x.2.1∧(de key m)[i]?=some (.val (key x.1),x.2.1,x.2.2)∧∀ v c,(de key m).set i (.val (key k),v,x.2.2)=de key (cJ k v c m)∧(cJ k v c m).length=m.length
    | none=>getM m k=none∧∀ v c,de key m ++ [(.val (key k),v,c)]=de key (cJ k v c m)∧(cJ k v c m).length=m.length+1
  | []=>⟨rfl,fun v c=>⟨rfl,rfl⟩⟩
  | x :: r=>by
    have ih:=pj (key:=key) k r
    simp only[gL]
    cases hk:k == x.1 with
    | true=>exact ⟨x,rfl,hk,by simp[getM,hk],rfl,fun v c=>by simp[cJ,hk,de]⟩
    | false =>
      simp only[Bool.false_eq_true,if_false]
      cases hi:gL k r with
      | some i =>
        rw[hi] at ih
        obtain ⟨y,h1,h2,h3,h4,h5⟩:=ih
        refine ⟨y,by simpa using h1,h2,by simpa [getM,hk] using h3,by simpa [de] using h4,fun v c=>?_⟩
        obtain ⟨g1,g2⟩:=h5 v c
        exact ⟨by simp only[de] at g1 ⊢; simp[cJ,hk,g1],by simp[cJ,hk,g2]⟩
      | none =>
        rw[hi] at ih
        refine ⟨by simpa [getM,hk] using ih.1,fun v c=>?_⟩
        obtain ⟨g1,g2⟩:=ih.2 v c
        exact ⟨by simp only[de] at g1 ⊢; simp[cJ,hk,g1],by simp[cJ,hk,g2]⟩
section
variable {P:Program} {T:Env} {H:View} {κ:Type} [BEq κ] {key:κ→Value} {kt et t ty:TypeId}
theorem yE {K:V→View→Prop} {w:bS (T,H,K)} {x i:Operand} {z:V} {id c:Nat} {m:cG κ} {k:κ} (hm:dI P t=some (kt,et)) (hz:zeroV P et=some z) (hk:w8 P kt key)
    (hx:ev T x=.mp id) (hi:ev T i=.val (key k)) (hH:H id=.map (de key m) c) (h:K ((getM m k).getD z) H):sG P (.lookup t x i false) ty T H K w:=by
  intro n _
  have hf:=rW hk k (de key m).isEmpty m
  have hg:=pj (key:=key) k m
  refine ⟨(getM m k).getD z,.none,[id],?_,h⟩
  simp only[sI,bt,oper,dH,hm,hz,hx,hi,hH,hf]
  cases hj:gL k m with
  | some j =>
    rw[hj] at hg
    obtain ⟨y,h1,h2,h3,h4,_⟩:=hg
    simp[h4,h3]
  | none =>
    rw[hj] at hg
    simp[hg.1]
theorem Ja {K:V→View→Prop} {w:bS (T,H,K)} {x i:Operand} {z:V} {id c:Nat} {m:cG κ} {k:κ} (hm:dI P t=some (kt,et)) (hz:zeroV P et=some z) (hk:w8 P kt key)
    (hx:ev T x=.mp id) (hi:ev T i=.val (key k)) (hH:H id=.map (de key m) c) (h:K (.aV [(getM m k).getD z,.val (.bool (getM m k).isSome)]) H):sG P (.lookup t x i true) ty T H K w:=by
  intro n _
  have hf:=rW hk k (de key m).isEmpty m
  have hg:=pj (key:=key) k m
  refine ⟨_,.none,[id],?_,h⟩
  simp only[sI,bt,oper,dH,hm,hz,hx,hi,hH,hf]
  cases hj:gL k m with
  | some j =>
    rw[hj] at hg
    obtain ⟨y,h1,h2,h3,h4,_⟩:=hg
    simp[h4,h3]
  | none =>
    rw[hj] at hg
    simp[hg.1]
theorem GL (hk:w8 P kt key) (k k':κ) (h:(k == k')=true):sameKey (.val (key k')) (.val (key k))=true:=by
  simp only[sameKey,bR]; exact hk.bits _ _ h
theorem Aj {K:V→View→Prop} {w:bS (T,H,K)} {x i y:Operand} {id c:Nat} {m:cG κ} {k:κ} {v:V} (hm:dI P t=some (kt,et)) (hk:w8 P kt key)
    (hx:ev T x=.mp id) (hi:ev T i=.val (key k)) (hy:ev T y=v) (hH:H id=.map (de key m) c)
    (h:∀ c',K .any (H.set id (.map (de key (cJ k v c m)) c'))):sG P (.mapUpdate t x i y) ty T H K w:=by
  intro n _
  have hf:=rW hk k false m
  have hg:=pj (key:=key) k m
  cases hj:gL k m with
  | some j =>
    rw[hj] at hg hf
    obtain ⟨z,h1,h2,h3,h4,h5⟩:=hg
    refine ⟨.any,.ec id (.map ((de key m).set j (.val (key k),v,z.2.2)) c),[id],?_,?_⟩
    · simp only[sI,bt,oper,dP,hm,hx,hi,hy,hH,hf,h4,GL hk k z.1 h2,if_true]
    · rw[(h5 v c).1]; exact h c
  | none =>
    rw[hj] at hg hf
    refine ⟨.any,.ec id (.map (de key m ++ [(.val (key k),v,c)]) (c+1)),[id],?_,?_⟩
    · simp only[sI,bt,oper,dP,hm,hx,hi,hy,hH,hf]
    · rw[(hg.2 v c).1]; exact h (c+1)
omit [BEq κ] in
theorem Ii {K:V→View→Prop} {w:bS (T,H,K)} {x:Operand} {id c:Nat} {m:cG κ} (hm:dI P t=some (kt,et)) (hx:ev T x=.mp id) (hH:H id=.map (de key m) c) (h:K (ak m.length) H) :
    sG P (.call { callee:=.builtin .len,args:=#[x],argTypes:=#[t] }) ty T H K w:=by
  intro n _
  have hu:∃ a b,P.underlying t=some (.map a b):=by
    unfold dI at hm
    split at hm
    · rename_i a b h1; exact ⟨a,b,h1⟩
    · simp at hm
  obtain ⟨a,b,hu⟩:=hu
  refine ⟨ak m.length,.none,[id],?_,h⟩
  have hl:(de key m).length=m.length:=by simp[de]
  simp only[sI,bt,oper,List.size_toArray,List.length_cons,List.length_nil,nN,hu,hx,hH,hl]
  simp[hu,hx,hH,hl,nN]
end
theorem y9 {κ:Type} [BEq κ] [LawfulBEq κ] (k k':κ) (v:V) (c:Nat):∀ m:cG κ,getM (cJ k v c m) k'=if k' == k then some v else getM m k'
  | []=>by
    by_cases h:k'=k
    · subst h; simp[cJ,getM]
    · simp[cJ,getM,h]
  | x :: r=>by
    have ih:=y9 k k' v c r
    simp only[cJ]
    by_cases hk:k=x.1
    · by_cases h:k'=k
      · subst h; simp[hk,getM]
      · have:¬ k'=x.1:=fun e=>h (e.trans hk.symm)
        simp[hk,getM,this]
    · simp only[beq_iff_eq,hk,if_false]
      by_cases h:k'=x.1
      · have:¬ k'=k:=fun e=>hk (e.symm.trans h)
        simp[getM,h]
        subst h
        simp[this]
      · simp only[getM,List.find?_cons,beq_eq_false_iff_ne.2 h] at ih ⊢
        exact ih
def cE {κ β:Type} [BEq κ] (a:List (κ × β)) (k:κ):Option β:=(a.find? fun x=>k == x.1).map (·.2)
def gh {κ β:Type} [BEq κ] (k:κ) (v:β):List (κ × β)→List (κ × β)
  | []=>[(k,v)]
  | x :: r=>if k == x.1 then (k,v) :: r else x :: gh k v r
def ji {κ β:Type} (encV:β→V):List (κ × β)→cG κ→Prop
  | [],[]=>True
  | x :: a,y :: m=>y.1=x.1∧y.2.1=encV x.2∧ji encV a m
  | _,_=>False
theorem ji.get {κ β:Type} [BEq κ] {encV:β→V} (k:κ):∀ {a:List (κ × β)} {m:cG κ},ji encV a m→getM m k=(cE a k).map encV
  | [],[],_=>rfl
  | x :: a,y :: m,⟨h1,h2,h3⟩=>by
    have ih:=ji.get k h3
    simp only[getM,cE,List.find?_cons,h1] at ih ⊢
    cases k == x.1 with
    | true=>simp[h2]
    | false=>simpa using ih
theorem ji.put {κ β:Type} [BEq κ] {encV:β→V} (k:κ) (v:β) (c:Nat):∀ {a:List (κ × β)} {m:cG κ},ji encV a m→ji encV (gh k v a) (cJ k (encV v) c m)
  | [],[],_=>⟨rfl,rfl,trivial⟩
  | x :: a,y :: m,⟨h1,h2,h3⟩=>by
    have ih:=ji.put k v c h3
    simp only[gh,cJ,h1]
    cases k == x.1 with
    | true=>exact ⟨rfl,rfl,h3⟩
    | false=>exact ⟨h1,h2,ih⟩
theorem ji.len {κ β:Type} {encV:β→V} : ∀ {a:List (κ × β)} {m:cG κ},ji encV a m→m.length=a.length
  | [],[],_=>rfl
  | x :: a,y :: m,⟨_,_,h3⟩=>by simp[ji.len h3]
theorem Ai {κ β:Type} [BEq κ] [LawfulBEq κ] (k k':κ) (v:β):∀ a:List (κ × β),cE (gh k v a) k'=if k' == k then some v else cE a k'
  | []=>by
    by_cases h:k'=k
    · subst h; simp[gh,cE]
    · simp[gh,cE,h]
  | x :: r=>by
    have ih:=Ai k k' v r
    simp only[gh]
    by_cases hk:k=x.1
    · by_cases h:k'=k
      · subst h; simp[hk,cE]
      · have:¬ k'=x.1:=fun e=>h (e.trans hk.symm)
        simp[hk,cE,this]
    · simp only[beq_iff_eq,hk,if_false]
      by_cases h:k'=x.1
      · have:¬ k'=k:=fun e=>hk (e.symm.trans h)
        simp[cE,h]
        subst h
        simp[this]
      · simp only[cE,List.find?_cons,beq_eq_false_iff_ne.2 h] at ih ⊢
        exact ih
def Ba (n k:Nat) (J:Nat→Env→View→Prop) (T:Env) (H:View):Prop:=∃ i,i+k=n∧J i T H
theorem cD.up {P:Program} {T:Env} {H:View} {c:SC} {Q:Exit→Env→View→Prop} {v:bS (T,H,Q)} (n:Nat) (J:Nat→Env→View→Prop) (h0:J 0 T H)
    (hs:∀ i k T H,i+k=n→J i T H→wS P c T H fun e T' H'=>ta e (∃ k',k' < k∧Ba n k' J T' H') (Q e T' H')):cD P c T H Q v :=
  cD.intro (fun k T H=>Ba n k J T H) n ⟨0,by omega,h0⟩ fun k T H ⟨i,hk,hj⟩=>hs i k T H hk hj
theorem bI {n i k:Nat} {J:Nat→Env→View→Prop} {T:Env} {H:View} (hk:i+k=n) (hlt:i < n) (hJ:J (i+1) T H):∃ k',k' < k∧Ba n k' J T H:=⟨k - 1,by omega,i+1,by omega,hJ⟩
end Gv
