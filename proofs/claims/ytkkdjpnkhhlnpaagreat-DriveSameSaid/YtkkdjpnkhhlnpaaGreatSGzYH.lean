/-
  Part 8 of the proof: what the machine does and what the functions answer.
  Conditions: those that each lemma names.
-/
import Derived.Test.YtkkdjpnkhhlnpaaGreatSGzYG
set_option linter.unusedSimpArgs false
set_option linter.unusedVariables false
set_option maxRecDepth 100000
namespace Gv
open Go Go.Proofs
def qJ:DF:=⟨.seq (aB [((some 2),.op (.alloc [(.emp 1),(.emp 1),(.emp 1),(.val (.int .i64 0))])),((some 3),.op (.bo (.val (.val (.complex .f64 0 0))))),aI 4 0]) <|
  .seq (aB [aa 9 0,aQ 10 98 [9],aa 8 10,bH 11 0 8,bH 12 1 8,bH 13 2 8,((some 5),.op (.alloc [(.emp 1),(.emp 1)])),(none,.op (.store 2 (.tmp 5) (.tmp 11))),aa 6 12,aa 7 13]) <|
  .seq (.seq (aB [aa 14 7,az 15 .neq 14 0]) <|
  .cond (.tmp 15) (.seq (aB [((some 16),.op (.build [(.emp 1),(.emp 1),(.emp 1),(.val (.int .i64 0))] [])),aa 17 6,aa 18 7,(none,.op (.store 4 (.tmp 2) (.tmp 16))),aa 3 17,aa 4 18]) <|
  .ret) (.skip)) <|
  .seq (aB [aO 19 2 5,aQ 20 99 [19],bH 21 0 20,bH 22 1 20,bH 23 2 20,(none,.op (.store 4 (.tmp 2) (.tmp 21))),aa 3 22,aa 4 23]) <|
  .ret,
  [.cell 2 (some 4),.tmp 3,.tmp 4],24⟩
theorem vJ:bM Tryz.prog 52 []=some qJ:=by kernel_rfl
def oJ:DF:=⟨.seq (aB [((some 2),.op (.alloc [(.emp 1),(.emp 1)])),((some 3),.op (.bo (.val (.val (.complex .f64 0 0))))),aI 4 0]) <|
  .seq (aB [aa 9 0,aQ 10 140 [9],aa 8 10,bH 11 0 8,bH 12 1 8,bH 13 2 8,aa 5 11,aa 6 12,aa 7 13]) <|
  .seq (.seq (aB [aa 14 7,az 15 .neq 14 0]) <|
  .cond (.tmp 15) (.seq (aB [((some 16),.op (.build [(.emp 1),(.emp 1)] [])),aa 17 6,aa 18 7,(none,.op (.store 2 (.tmp 2) (.tmp 16))),aa 3 17,aa 4 18]) <|
  .ret) (.skip)) <|
  .seq (aB [aa 19 5,aa 20 6,aQ 21 141 [19,20],bH 22 0 21,bH 23 1 21,bH 24 2 21,(none,.op (.store 2 (.tmp 2) (.tmp 22))),aa 3 23,aa 4 24]) <|
  .ret,
  [.cell 2 (some 2),.tmp 3,.tmp 4],25⟩
theorem um:bM Tryz.prog 98 []=some oJ:=by kernel_rfl
def tZ:DC :=
  .seq (.seq (.region [] [⟨none,[aa 16 6,aa 17 0,aM 18 17,aR 19 .lss 16 18,aa 20 19]⟩,⟨(some (20,true)),[aa 21 7,az 22 .lss 21 2]⟩,⟨none,[bF 23 20 22]⟩]) <|
  .cond (.tmp 23) (.skip) (.exit 0)) <|
  .block 1 (.seq (aB [aa 25 0,aa 26 6,aQ 27 198 [25,26],aa 24 27,bH 28 0 24,bH 29 1 24,aa 8 28,aa 9 29]) <|
  .seq (.seq (aB [aa 30 8,az 31 .lss 30 0]) <|
  .cond (.tmp 31) (.seq (aB [aa 32 0,aa 33 6,aQ 34 199 [32,33],((some 2),.op (.bo (.val (.emp 1)))),aa 3 34,aI 4 4]) <|
  .ret) (.skip)) <|
  .seq (.seq (aB [aa 35 9]) <|
  .cond (.tmp 35) (.seq (aB [aa 36 8,aa 6 36]) <|
  .exit 1) (.skip)) <|
  .seq (.region [] [⟨none,[aa 38 0,aa 39 6,aQ 40 200 [38,39],aa 37 40,bH 41 0 37,bH 42 1 37,bH 43 2 37,((some 10),.op (.alloc [(.val (.int .i64 0)),(.val (.string ⟨#[]⟩)),(.val (.complex .f64 0 0))])),(none,.op (.store 3 (.tmp 10) (.tmp 41))),aa 11 42,aa 12 43]⟩]) <|
  .seq (.seq (aB [aa 44 12,az 45 .neq 44 0]) <|
  .cond (.tmp 45) (.seq (aB [au 46 2 10,ao 47 46,aa 48 12,((some 2),.op (.bo (.val (.emp 1)))),aa 3 47,aa 4 48]) <|
  .ret) (.skip)) <|
  .seq (.seq (aB [au 49 0 10,ao 50 49,az 51 .eql 50 9]) <|
  .cond (.tmp 51) (aB [aa 52 7,az 53 .add 52 1,aa 7 53]) (.skip)) <|
  .region [] [⟨none,[aa 54 5,aO 55 3 10,((some 56),.op (.bh 1 3 [(.val (.int .i64 0)),(.val (.string ⟨#[]⟩)),(.val (.complex .f64 0 0))] [(0,(.tmp 55))])),((some 57),.op (.app 3 40 (.tmp 54) (.tmp 56))),aa 58 11,aa 5 57,aa 6 58]⟩])
def nf:DF:=⟨.seq (aB [((some 2),.op (.bo (.val (.emp 1)))),((some 3),.op (.bo (.val (.val (.complex .f64 0 0))))),aI 4 0]) <|
  .seq (.seq (aB [aa 13 0,aM 14 13,az 15 .gtr 14 4000]) <|
  .cond (.tmp 15) (.seq (aB [((some 2),.op (.bo (.val (.emp 1)))),((some 3),.op (.bo (.val (.val (.complex .f64 0 0))))),aI 4 5]) <|
  .ret) (.skip)) <|
  .seq (aB [((some 5),.op (.bo (.val (.emp 1))))]) <|
  .seq (aB [aI 6 0,aI 7 0]) <|
  .seq (.block 0 (.loop tZ)) <|
  .seq (aB [aa 59 5,aa 60 0,aa 61 0,aM 62 61,aQ 63 199 [60,62],aa 2 59,aa 3 63,aI 4 0]) <|
  .ret,
  [.tmp 2,.tmp 3,.tmp 4],64⟩
theorem sZ:bM Tryz.prog 140 []=some nf:=by kernel_rfl
def pU:DF:=⟨.seq (aB [aI 4 0,aZ 5 false]) <|
  .seq (.block 0 (.seq (.region [] [⟨none,[aa 7 0,aa 8 1,aS 9 1 7 8,ao 10 9,((some 11),.op (.arith .eql (.tmp 10) (.val (.val (.int .u8 32))))),aa 12 11]⟩,⟨(some (12,false)),[aa 13 0,aa 14 1,aS 15 1 13 14,ao 16 15,((some 17),.op (.arith .eql (.tmp 16) (.val (.val (.int .u8 9)))))]⟩,⟨none,[bB 18 12 17,aa 19 18]⟩,⟨(some (19,false)),[aa 20 0,aa 21 1,aS 22 1 20 21,ao 23 22,((some 24),.op (.arith .eql (.tmp 23) (.val (.val (.int .u8 10)))))]⟩,⟨none,[bB 25 19 24,aa 26 25]⟩,⟨(some (26,false)),[aa 27 0,aa 28 1,aS 29 1 27 28,ao 30 29,((some 31),.op (.arith .eql (.tmp 30) (.val (.val (.int .u8 13)))))]⟩,⟨none,[bB 32 26 31,aa 6 32]⟩]) <|
  .cond (.tmp 6) (.seq (aB [aa 33 1,az 34 .add 33 1,aa 4 34,aZ 5 true]) <|
  .ret) (.seq (.region [] [⟨none,[aa 36 0,aa 37 1,cZ 38 239 [(.tmp 36),(.tmp 37),(.val (.val (.string ⟨#[47,42]⟩)))],aa 35 38]⟩]) <|
  .cond (.tmp 35) (.seq (.region [] [⟨none,[aa 39 0,aa 40 1,az 41 .add 40 2,cZ 42 240 [(.tmp 39),(.tmp 41),(.val (.val (.string ⟨#[42,47]⟩)))],aa 4 42,aZ 5 true]⟩]) <|
  .ret) (.seq (.region [] [⟨none,[aa 44 0,aa 45 1,cZ 46 239 [(.tmp 44),(.tmp 45),(.val (.val (.string ⟨#[47,47]⟩)))],aa 43 46]⟩]) <|
  .cond (.tmp 43) (.seq (aB [aa 47 0,aa 48 1,aQ 49 241 [47,48],aa 4 49,aZ 5 true]) <|
  .ret) (.seq (.region [] [⟨none,[aa 51 0,aa 52 1,cZ 53 239 [(.tmp 51),(.tmp 52),(.val (.val (.string ⟨#[37,123]⟩)))],aa 50 53]⟩]) <|
  .cond (.tmp 50) (.seq (.region [] [⟨none,[aa 54 0,aa 55 1,az 56 .add 55 2,cZ 57 240 [(.tmp 54),(.tmp 56),(.val (.val (.string ⟨#[37,125]⟩)))],aa 4 57,aZ 5 true]⟩]) <|
  .ret) (.seq (aB [aa 59 0,aa 60 1,aS 61 1 59 60,ao 62 61,((some 63),.op (.arith .eql (.tmp 62) (.val (.val (.int .u8 60))))),aa 58 63]) <|
  .cond (.tmp 58) (.seq (.region [] [⟨none,[aa 64 0,aa 65 0,aa 66 1,aQ 67 241 [65,66],((some 68),.op (.slice 1 (.tmp 64) none (some (.tmp 67)))),aa 69 1,az 70 .add 69 1,cZ 71 240 [(.tmp 68),(.tmp 70),(.val (.val (.string ⟨#[62]⟩)))],aa 4 71,aZ 5 true]⟩]) <|
  .ret) (.seq (aB [aa 73 0,aa 74 1,aS 75 1 73 74,ao 76 75,((some 77),.op (.arith .eql (.tmp 76) (.val (.val (.int .u8 123))))),aa 72 77]) <|
  .cond (.tmp 72) (.seq (aB [aa 78 0,aa 79 1,aQ 80 242 [78,79],aa 4 80,aZ 5 true]) <|
  .ret) (.skip)))))))) <|
  .seq (aB [aa 81 1,aa 4 81,aZ 5 false]) <|
  .ret,
  [.tmp 4,.tmp 5],82⟩
theorem vD:bM Tryz.prog 198 []=some pU:=by kernel_rfl
def rr:DF:=⟨.seq (aB [aZ 6 false]) <|
  .seq (.region [] [⟨none,[aa 7 1,aa 8 2,((some 9),.op (.ik (.tmp 8))),aR 10 .add 7 9,aa 11 0,aM 12 11,aR 13 .leq 10 12,aa 14 13]⟩,⟨(some (14,true)),[aa 15 0,aa 16 1,aa 17 1,aa 18 2,((some 19),.op (.ik (.tmp 18))),aR 20 .add 17 19,((some 21),.op (.slice 1 (.tmp 15) (some (.tmp 16)) (some (.tmp 20)))),((some 22),.op (.old (.convert 96 9 (.tmp 21)) 9)),aa 23 2,((some 24),.op (.jx .eql (.tmp 22) (.tmp 23)))]⟩,⟨none,[bF 25 14 24,aa 6 25]⟩]) <|
  .ret,
  [.tmp 6],26⟩
theorem xf:bM Tryz.prog 239 []=some rr:=by kernel_rfl
def xe:DC :=
  .seq (.seq (aB [aa 7 1,aa 8 0,aM 9 8,aR 10 .lss 7 9]) <|
  .cond (.tmp 10) (.skip) (.exit 0)) <|
  .block 1 (.seq (.seq (aB [aa 11 0,aa 12 1,aa 13 2,aQ 14 239 [11,12,13]]) <|
  .cond (.tmp 14) (.seq (aB [aa 15 1,aa 16 2,((some 17),.op (.ik (.tmp 16))),aR 18 .add 15 17,aa 6 18]) <|
  .ret) (.skip)) <|
  aB [aa 19 1,az 20 .add 19 1,aa 1 20])
def qi:DF:=⟨.seq (aB [aI 6 0]) <|
  .seq (.block 0 (.loop xe)) <|
  .seq (aB [aI 6 (-1)]) <|
  .ret,
  [.tmp 6],21⟩
theorem vA:bM Tryz.prog 240 []=some qi:=by kernel_rfl
def xi:DC :=
  .seq (.seq (.region [] [⟨none,[aa 5 1,aa 6 0,aM 7 6,aR 8 .lss 5 7,aa 9 8]⟩,⟨(some (9,true)),[aa 10 0,aa 11 1,aS 12 1 10 11,ao 13 12,((some 14),.op (.arith .neq (.tmp 13) (.val (.val (.int .u8 10)))))]⟩,⟨none,[bF 15 9 14]⟩]) <|
  .cond (.tmp 15) (.skip) (.exit 0)) <|
  .block 1 (aB [aa 16 1,az 17 .add 16 1,aa 1 17])
def qD:DF:=⟨.seq (aB [aI 4 0]) <|
  .seq (.block 0 (.loop xi)) <|
  .seq (aB [aa 18 1,aa 4 18]) <|
  .ret,
  [.tmp 4],19⟩
theorem u6:bM Tryz.prog 241 []=some qD:=by kernel_rfl
def tX:DC :=
  .seq (.seq (.region [] [⟨none,[aa 6 1,az 7 .geq 6 0,aa 8 7]⟩,⟨(some (8,true)),[aa 9 1,aa 10 0,aM 11 10,aR 12 .lss 9 11]⟩,⟨none,[bF 13 8 12]⟩]) <|
  .cond (.tmp 13) (.skip) (.exit 0)) <|
  .block 1 (.seq (.seq (aB [aa 14 0,aa 15 1,aS 16 1 14 15,ao 17 16]) <|
  .block 2 (.seq (aB [((some 21),.op (.arith .eql (.tmp 17) (.val (.val (.int .u8 123))))),aa 20 21]) <|
  .cond (.tmp 20) (.seq (aB [aa 22 5,az 23 .add 22 1,aa 5 23]) <|
  aB [aa 24 1,az 25 .add 24 1,aa 1 25]) (.seq (aB [((some 27),.op (.arith .eql (.tmp 17) (.val (.val (.int .u8 125))))),aa 26 27]) <|
  .cond (.tmp 26) (.seq (aB [aa 28 5,az 29 .sub 28 1,aa 5 29]) <|
  aB [aa 30 1,az 31 .add 30 1,aa 1 31]) (.seq (.seq (aB [((some 33),.op (.arith .eql (.tmp 17) (.val (.val (.int .u8 39))))),aa 32 33]) <|
  .cond (.tmp 32) (.skip) (aB [((some 34),.op (.arith .eql (.tmp 17) (.val (.val (.int .u8 34))))),aa 32 34])) <|
  .cond (.tmp 32) (aB [aa 35 0,aa 36 1,aQ 37 260 [35,36],aa 1 37]) (aB [aa 18 1,az 19 .add 18 1,aa 1 19]))))) <|
  .seq (.region [] [⟨none,[aa 38 5,az 39 .eql 38 0,aa 40 39]⟩,⟨(some (40,true)),[aa 41 1,az 42 .geq 41 0]⟩,⟨none,[bF 43 40 42]⟩]) <|
  .cond (.tmp 43) (.seq (aB [aa 44 1,aa 4 44]) <|
  .ret) (.skip))
def nt:DF:=⟨.seq (aB [aI 4 0]) <|
  .seq (aB [aI 5 0]) <|
  .seq (.block 0 (.loop tX)) <|
  .seq (aB [aI 4 (-1)]) <|
  .ret,
  [.tmp 4],45⟩
theorem s8:bM Tryz.prog 242 []=some nt:=by kernel_rfl
def uM:DC :=
  .seq (.seq (aB [aa 12 1,aa 13 0,aM 14 13,aR 15 .lss 12 14]) <|
  .cond (.tmp 15) (.skip) (.exit 0)) <|
  .block 1 (.seq (.seq (aB [aa 16 0,aa 17 1,aS 18 1 16 17,ao 19 18,aa 20 5,aR 21 .eql 19 20]) <|
  .cond (.tmp 21) (.seq (aB [aa 22 1,az 23 .add 22 1,aa 4 23]) <|
  .ret) (.skip)) <|
  .seq (.seq (aB [aa 24 0,aa 25 1,aS 26 1 24 25,ao 27 26,((some 28),.op (.arith .eql (.tmp 27) (.val (.val (.int .u8 92)))))]) <|
  .cond (.tmp 28) (aB [aa 29 1,az 30 .add 29 1,aa 1 30]) (.skip)) <|
  aB [aa 31 1,az 32 .add 31 1,aa 1 32])
def m3:DF:=⟨.seq (aB [aI 4 0]) <|
  .seq (aB [aa 6 0,aa 7 1,aS 8 1 6 7,ao 9 8,aa 5 9]) <|
  .seq (aB [aa 10 1,az 11 .add 10 1,aa 1 11]) <|
  .seq (.block 0 (.loop uM)) <|
  .seq (aB [aI 4 (-1)]) <|
  .ret,
  [.tmp 4],33⟩
theorem s7:bM Tryz.prog 260 []=some m3:=by kernel_rfl
def yf:DC :=
  .seq (.seq (aB [aa 16 7,aa 17 1,aR 18 .lss 16 17]) <|
  .cond (.tmp 18) (.skip) (.exit 0)) <|
  .seq (.block 1 (.seq (aB [aa 21 6,az 22 .add 21 1,aa 6 22]) <|
  .seq (aB [aa 23 0,aa 24 7,aS 25 1 23 24,ao 26 25,((some 27),.op (.arith .eql (.tmp 26) (.val (.val (.int .u8 10)))))]) <|
  .cond (.tmp 27) (aB [aa 28 5,az 29 .add 28 1,aa 5 29,aI 6 1]) (.skip))) <|
  aB [aa 19 7,az 20 .add 19 1,aa 7 20]
def sK:DF:=⟨.seq (aB [((some 4),.op (.bo (.val (.val (.complex .f64 0 0)))))]) <|
  .seq (.seq (.region [] [⟨none,[aa 8 1,az 9 .lss 8 0,aa 10 9]⟩,⟨(some (10,false)),[aa 11 1,aa 12 0,aM 13 12,aR 14 .gtr 11 13]⟩,⟨none,[bB 15 10 14]⟩]) <|
  .cond (.tmp 15) (.seq (aB [((some 4),.op (.bo (.val (.val (.complex .f64 0 0)))))]) <|
  .ret) (.skip)) <|
  .seq (aB [aI 5 1,aI 6 1]) <|
  .seq (.seq (aB [aI 7 0]) <|
  .block 0 (.loop yf)) <|
  .seq (aB [aa 30 5,aa 31 6,aQ 32 243 [30,31],aa 4 32]) <|
  .ret,
  [.tmp 4],33⟩
theorem xY:bM Tryz.prog 199 []=some sK:=by kernel_rfl
def sT:DF:=⟨.seq (aB [((some 4),.op (.bo (.val (.val (.complex .f64 0 0)))))]) <|
  .seq (.seq (.region [] [⟨none,[aa 5 0,az 6 .lss 5 1,aa 7 6]⟩,⟨(some (7,false)),[aa 8 0,az 9 .gtr 8 1073741824]⟩,⟨none,[bB 10 7 9,aa 11 10]⟩,⟨(some (11,false)),[aa 12 1,az 13 .lss 12 1]⟩,⟨none,[bB 14 11 13,aa 15 14]⟩,⟨(some (15,false)),[aa 16 1,az 17 .gtr 16 1073741824]⟩,⟨none,[bB 18 15 17]⟩]) <|
  .cond (.tmp 18) (.seq (aB [((some 4),.op (.bo (.val (.val (.complex .f64 0 0)))))]) <|
  .ret) (.skip)) <|
  .seq (aB [aa 19 0,((some 20),.op (.old (.convert 3 309 (.tmp 19)) 309)),aa 21 1,((some 22),.op (.old (.convert 3 309 (.tmp 21)) 309)),((some 23),.op (.old (.call { callee:=.builtin .complex,args:=#[(.tmp 20),(.tmp 22)],argTypes:=#[309,309] }) 93)),aa 4 23]) <|
  .ret,
  [.tmp 4],24⟩
theorem xZ:bM Tryz.prog 243 []=some sT:=by kernel_rfl
def yc:DC :=
  .seq (.seq (.region [] [⟨none,[aa 27 9,aa 28 0,aM 29 28,aR 30 .lss 27 29,aa 31 30]⟩,⟨(some (31,true)),[aa 32 0,aa 33 9,aS 34 1 32 33,ao 35 34,aQ 36 219 [35]]⟩,⟨none,[bF 37 31 36]⟩]) <|
  .cond (.tmp 37) (.skip) (.exit 1)) <|
  .block 2 (aB [aa 38 9,az 39 .add 38 1,aa 9 39])
def x8:DC :=
  .seq (.seq (aB [aa 58 10,az 59 .leq 58 4]) <|
  .cond (.tmp 59) (.skip) (.exit 3)) <|
  .seq (.block 4 (.seq (.region [] [⟨none,[aa 62 1,aa 63 10,aR 64 .add 62 63,aa 65 0,aM 66 65,aR 67 .leq 64 66,aa 68 67]⟩,⟨(some (68,true)),[aa 69 0,aa 70 1,aa 71 1,aa 72 10,aR 73 .add 71 72,((some 74),.op (.slice 1 (.tmp 69) (some (.tmp 70)) (some (.tmp 73)))),((some 75),.op (.old (.convert 96 9 (.tmp 74)) 9)),aQ 76 217 [75]]⟩,⟨none,[bF 77 68 76]⟩]) <|
  .cond (.tmp 77) (.seq (.region [(6,8)] [⟨none,[aa 78 0,aa 79 1,aa 80 1,aa 81 10,aR 82 .add 80 81,((some 83),.op (.slice 1 (.tmp 78) (some (.tmp 79)) (some (.tmp 82)))),((some 84),.op (.old (.convert 96 9 (.tmp 83)) 9)),au 85 0 7,(none,.op (.store 1 (.tmp 85) (.val (.val (.int .i64 2))))),au 86 1 7,(none,.op (.store 1 (.tmp 86) (.tmp 84)))]⟩]) <|
  .seq (aB [aO 87 3 7,aa 88 1,aa 89 10,aR 90 .add 88 89,(none,.op (.store 3 (.tmp 4) (.tmp 87))),aa 5 90,aI 6 0]) <|
  .ret) (.skip))) <|
  aB [aa 60 10,az 61 .add 60 1,aa 10 61]
def xX:DC :=
  .seq (.seq (.region [] [⟨none,[aa 108 9,aa 109 0,aM 110 109,aR 111 .lss 108 110,aa 112 111]⟩,⟨(some (112,true)),[aa 113 0,aa 114 9,aS 115 1 113 114,ao 116 115,((some 117),.op (.arith .geq (.tmp 116) (.val (.val (.int .u8 97)))))]⟩,⟨none,[bF 118 112 117,aa 119 118]⟩,⟨(some (119,true)),[aa 120 0,aa 121 9,aS 122 1 120 121,ao 123 122,((some 124),.op (.arith .leq (.tmp 123) (.val (.val (.int .u8 122)))))]⟩,⟨none,[bF 125 119 124]⟩]) <|
  .cond (.tmp 125) (.skip) (.exit 5)) <|
  .block 6 (aB [aa 126 9,az 127 .add 126 1,aa 9 127])
def rv:DF:=⟨.seq (.region [] [⟨none,[((some 4),.op (.alloc [(.val (.int .i64 0)),(.val (.string ⟨#[]⟩)),(.val (.complex .f64 0 0))])),aI 5 0,aI 6 0]⟩]) <|
  .seq (.region [] [⟨none,[aa 11 0,aa 12 1,aQ 13 199 [11,12],((some 14),.op (.build [(.val (.int .i64 0)),(.val (.string ⟨#[]⟩)),(.val (.complex .f64 0 0))] [(2,1,(.tmp 13))])),((some 7),.op (.alloc [(.val (.int .i64 0)),(.val (.string ⟨#[]⟩)),(.val (.complex .f64 0 0))])),(none,.op (.store 3 (.tmp 7) (.tmp 14)))]⟩]) <|
  .seq (aB [aa 15 0,aa 16 1,aS 17 1 15 16,ao 18 17,aa 8 18]) <|
  .seq (aB [aa 19 1,az 20 .add 19 1,aa 9 20]) <|
  .seq (.block 0 (.seq (aB [aa 25 8,aQ 26 218 [25],aa 24 26]) <|
  .cond (.tmp 24) (.seq (.block 1 (.loop yc)) <|
  .seq (.seq (aB [aa 40 9,aa 41 1,aR 42 .sub 40 41,az 43 .gtr 42 20]) <|
  .cond (.tmp 43) (.seq (aB [aO 44 3 7,aa 45 9,(none,.op (.store 3 (.tmp 4) (.tmp 44))),aa 5 45,aI 6 5]) <|
  .ret) (.skip)) <|
  .seq (.region [(4,6)] [⟨none,[aa 46 0,aa 47 1,aa 48 9,((some 49),.op (.slice 1 (.tmp 46) (some (.tmp 47)) (some (.tmp 48)))),((some 50),.op (.old (.convert 96 9 (.tmp 49)) 9)),au 51 0 7,(none,.op (.store 1 (.tmp 51) (.val (.val (.int .i64 1))))),au 52 1 7,(none,.op (.store 1 (.tmp 52) (.tmp 50)))]⟩]) <|
  .seq (aB [aO 53 3 7,aa 54 9,(none,.op (.store 3 (.tmp 4) (.tmp 53))),aa 5 54,aI 6 0]) <|
  .ret) (.seq (aB [aa 56 8,((some 57),.op (.arith .eql (.tmp 56) (.val (.val (.int .u8 39))))),aa 55 57]) <|
  .cond (.tmp 55) (.seq (.seq (aB [aI 10 3]) <|
  .block 3 (.loop x8)) <|
  .seq (.region [(0,5)] [⟨none,[aO 91 3 7,aa 92 9,aa 93 0,aa 94 1,((some 95),.op (.slice 1 (.tmp 93) (some (.tmp 94)) none)),aQ 96 244 [95],(none,.op (.store 3 (.tmp 4) (.tmp 91))),aa 5 92,aa 6 96]⟩]) <|
  .ret) (.seq (.region [] [⟨none,[aa 98 0,aa 99 1,cZ 100 239 [(.tmp 98),(.tmp 99),(.val (.val (.string ⟨#[37,37]⟩)))],aa 97 100]⟩]) <|
  .cond (.tmp 97) (.seq (aB [au 101 0 7,(none,.op (.store 1 (.tmp 101) (.val (.val (.int .i64 9)))))]) <|
  .seq (aB [aO 102 3 7,aa 103 1,az 104 .add 103 2,(none,.op (.store 3 (.tmp 4) (.tmp 102))),aa 5 104,aI 6 0]) <|
  .ret) (.seq (aB [aa 106 8,((some 107),.op (.arith .eql (.tmp 106) (.val (.val (.int .u8 37))))),aa 105 107]) <|
  .cond (.tmp 105) (.seq (.block 5 (.loop xX)) <|
  aB [aa 128 0,aa 129 1,az 130 .add 129 1,aa 131 9,((some 132),.op (.slice 1 (.tmp 128) (some (.tmp 130)) (some (.tmp 131)))),((some 133),.op (.old (.convert 96 9 (.tmp 132)) 9)),aQ 134 245 [133],au 135 0 7,(none,.op (.store 1 (.tmp 135) (.tmp 134)))]) (aB [aa 21 8,aQ 22 246 [21],au 23 0 7,(none,.op (.store 1 (.tmp 23) (.tmp 22)))])))))) <|
  .seq (.seq (aB [au 136 0 7,ao 137 136,az 138 .eql 137 0]) <|
  .cond (.tmp 138) (.seq (aB [aO 139 3 7,aa 140 9,(none,.op (.store 3 (.tmp 4) (.tmp 139))),aa 5 140,aI 6 3]) <|
  .ret) (.skip)) <|
  .seq (aB [aO 141 3 7,aa 142 9,(none,.op (.store 3 (.tmp 4) (.tmp 141))),aa 5 142,aI 6 0]) <|
  .ret,
  [.cell 4 (some 3),.tmp 5,.tmp 6],143⟩
theorem xl:bM Tryz.prog 200 []=some rv:=by kernel_rfl
def ow:DF:=⟨.seq (aB [aZ 2 false]) <|
  .seq (.region [] [⟨none,[aa 3 0,aQ 4 218 [3],aa 5 4]⟩,⟨(some (5,false)),[aa 6 0,((some 7),.op (.arith .geq (.tmp 6) (.val (.val (.int .u8 48))))),aa 8 7]⟩,⟨(some (8,true)),[aa 9 0,((some 10),.op (.arith .leq (.tmp 9) (.val (.val (.int .u8 57)))))]⟩,⟨(some (5,false)),[bF 11 8 10]⟩,⟨none,[bB 12 5 11,aa 13 12]⟩,⟨(some (13,false)),[aa 14 0,((some 15),.op (.arith .eql (.tmp 14) (.val (.val (.int .u8 46)))))]⟩,⟨none,[bB 16 13 15,aa 2 16]⟩]) <|
  .ret,
  [.tmp 2],17⟩
theorem uw:bM Tryz.prog 219 []=some ow:=by kernel_rfl
def og:DF:=⟨.seq (aB [aZ 2 false]) <|
  .seq (.region [] [⟨none,[aa 3 0,((some 4),.op (.arith .geq (.tmp 3) (.val (.val (.int .u8 97))))),aa 5 4]⟩,⟨(some (5,true)),[aa 6 0,((some 7),.op (.arith .leq (.tmp 6) (.val (.val (.int .u8 122)))))]⟩,⟨none,[bF 8 5 7,aa 9 8]⟩,⟨(some (9,false)),[aa 10 0,((some 11),.op (.arith .geq (.tmp 10) (.val (.val (.int .u8 65))))),aa 12 11]⟩,⟨(some (12,true)),[aa 13 0,((some 14),.op (.arith .leq (.tmp 13) (.val (.val (.int .u8 90)))))]⟩,⟨(some (9,false)),[bF 15 12 14]⟩,⟨none,[bB 16 9 15,aa 17 16]⟩,⟨(some (17,false)),[aa 18 0,((some 19),.op (.arith .eql (.tmp 18) (.val (.val (.int .u8 95)))))]⟩,⟨none,[bB 20 17 19,aa 2 20]⟩]) <|
  .ret,
  [.tmp 2],21⟩
theorem uB:bM Tryz.prog 218 []=some og:=by kernel_rfl
def mA:DF:=⟨.seq (aB [aZ 2 false]) <|
  .seq (.seq (aB [aa 3 0,((some 4),.op (.ik (.tmp 3))),az 5 .eql 4 3]) <|
  .cond (.tmp 5) (.seq (.region [] [⟨none,[aa 6 0,((some 7),.op (.dB (.tmp 6) (.val (.val (.int .i64 0))))),((some 8),.op (.arith .eql (.tmp 7) (.val (.val (.int .u8 39))))),aa 9 8]⟩,⟨(some (9,true)),[aa 10 0,((some 11),.op (.dB (.tmp 10) (.val (.val (.int .i64 2))))),((some 12),.op (.arith .eql (.tmp 11) (.val (.val (.int .u8 39)))))]⟩,⟨none,[bF 13 9 12,aa 14 13]⟩,⟨(some (14,true)),[aa 15 0,((some 16),.op (.dB (.tmp 15) (.val (.val (.int .i64 1))))),((some 17),.op (.arith .geq (.tmp 16) (.val (.val (.int .u8 32)))))]⟩,⟨none,[bF 18 14 17,aa 19 18]⟩,⟨(some (19,true)),[aa 20 0,((some 21),.op (.dB (.tmp 20) (.val (.val (.int .i64 1))))),((some 22),.op (.arith .leq (.tmp 21) (.val (.val (.int .u8 126)))))]⟩,⟨none,[bF 23 19 22,aa 24 23]⟩,⟨(some (24,true)),[aa 25 0,((some 26),.op (.dB (.tmp 25) (.val (.val (.int .i64 1))))),((some 27),.op (.arith .neq (.tmp 26) (.val (.val (.int .u8 39)))))]⟩,⟨none,[bF 28 24 27,aa 29 28]⟩,⟨(some (29,true)),[aa 30 0,((some 31),.op (.dB (.tmp 30) (.val (.val (.int .i64 1))))),((some 32),.op (.arith .neq (.tmp 31) (.val (.val (.int .u8 92)))))]⟩,⟨none,[bF 33 29 32,aa 2 33]⟩]) <|
  .ret) (.skip)) <|
  .seq (.region [] [⟨none,[aa 34 0,((some 35),.op (.ik (.tmp 34))),az 36 .eql 35 4,aa 37 36]⟩,⟨(some (37,true)),[aa 38 0,((some 39),.op (.dB (.tmp 38) (.val (.val (.int .i64 0))))),((some 40),.op (.arith .eql (.tmp 39) (.val (.val (.int .u8 39)))))]⟩,⟨none,[bF 41 37 40,aa 42 41]⟩,⟨(some (42,true)),[aa 43 0,((some 44),.op (.dB (.tmp 43) (.val (.val (.int .i64 3))))),((some 45),.op (.arith .eql (.tmp 44) (.val (.val (.int .u8 39)))))]⟩,⟨none,[bF 46 42 45,aa 47 46]⟩,⟨(some (47,true)),[aa 48 0,((some 49),.op (.dB (.tmp 48) (.val (.val (.int .i64 1))))),((some 50),.op (.arith .eql (.tmp 49) (.val (.val (.int .u8 92)))))]⟩,⟨none,[bF 51 47 50,aa 52 51]⟩,⟨(some (52,true)),[aa 53 0,((some 54),.op (.dB (.tmp 53) (.val (.val (.int .i64 2))))),((some 55),.op (.arith .eql (.tmp 54) (.val (.val (.int .u8 110))))),aa 56 55]⟩,⟨(some (56,false)),[aa 57 0,((some 58),.op (.dB (.tmp 57) (.val (.val (.int .i64 2))))),((some 59),.op (.arith .eql (.tmp 58) (.val (.val (.int .u8 116)))))]⟩,⟨(some (52,true)),[bB 60 56 59,aa 61 60]⟩,⟨(some (61,false)),[aa 62 0,((some 63),.op (.dB (.tmp 62) (.val (.val (.int .i64 2))))),((some 64),.op (.arith .eql (.tmp 63) (.val (.val (.int .u8 92)))))]⟩,⟨(some (52,true)),[bB 65 61 64,aa 66 65]⟩,⟨(some (66,false)),[aa 67 0,((some 68),.op (.dB (.tmp 67) (.val (.val (.int .i64 2))))),((some 69),.op (.arith .eql (.tmp 68) (.val (.val (.int .u8 39)))))]⟩,⟨(some (52,true)),[bB 70 66 69]⟩,⟨none,[bF 71 52 70,aa 2 71]⟩]) <|
  .ret,
  [.tmp 2],72⟩
theorem sL:bM Tryz.prog 217 []=some mA:=by kernel_rfl
def tc:DC :=
  .seq (.seq (aB [aa 6 4,aa 7 3,aM 8 7,aR 9 .lss 6 8]) <|
  .cond (.tmp 9) (.skip) (.exit 0)) <|
  .seq (.block 1 (.seq (.region [(5,9)] [⟨none,[aa 12 0,aM 13 12,az 14 .lss 13 4,aa 15 14]⟩,⟨(some (15,true)),[aa 16 0,((some 17),.op (.old (.convert 96 9 (.tmp 16)) 9)),aa 18 3,aa 19 4,aS 20 1 18 19,ao 21 20,((some 22),.op (.jx .add (.tmp 17) (.tmp 21))),aQ 23 217 [22]]⟩,⟨none,[bF 24 15 23]⟩]) <|
  .cond (.tmp 24) (.seq (aB [aI 2 4]) <|
  .ret) (.skip))) <|
  aB [aa 10 4,az 11 .add 10 1,aa 4 11]
def l7:DF:=⟨.seq (aB [aI 2 0]) <|
  .seq (.region [] [⟨none,[((some 5),.op (.bh 5 1 [(.val (.string ⟨#[]⟩))] [(0,(.val (.val (.string ⟨#[120,39]⟩)))),(1,(.val (.val (.string ⟨#[39]⟩)))),(2,(.val (.val (.string ⟨#[92,110,39]⟩)))),(3,(.val (.val (.string ⟨#[110,39]⟩)))),(4,(.val (.val (.string ⟨#[92,39,39]⟩))))])),aa 3 5]⟩]) <|
  .seq (.seq (aB [aI 4 0]) <|
  .block 0 (.loop tc)) <|
  .seq (aB [aI 2 3]) <|
  .ret,
  [.tmp 2],25⟩
theorem sx:bM Tryz.prog 244 []=some l7:=by kernel_rfl
def mn:DF:=⟨.seq (aB [aI 2 0]) <|
  .seq (.seq (aB [aa 3 0]) <|
  .block 0 (.seq (.region [] [⟨none,[((some 5),.op (.jx .eql (.tmp 3) (.val (.val (.string ⟨#[116,111,107,101,110]⟩))))),aa 4 5]⟩]) <|
  .cond (.tmp 4) (.seq (aB [aI 2 3]) <|
  .ret) (.seq (.region [] [⟨none,[((some 7),.op (.jx .eql (.tmp 3) (.val (.val (.string ⟨#[108,101,102,116]⟩))))),aa 6 7]⟩]) <|
  .cond (.tmp 6) (.seq (aB [aI 2 4]) <|
  .ret) (.seq (.region [] [⟨none,[((some 9),.op (.jx .eql (.tmp 3) (.val (.val (.string ⟨#[114,105,103,104,116]⟩))))),aa 8 9]⟩]) <|
  .cond (.tmp 8) (.seq (aB [aI 2 5]) <|
  .ret) (.seq (.region [] [⟨none,[((some 11),.op (.jx .eql (.tmp 3) (.val (.val (.string ⟨#[110,111,110,97,115,115,111,99]⟩))))),aa 10 11]⟩]) <|
  .cond (.tmp 10) (.seq (aB [aI 2 6]) <|
  .ret) (.seq (.region [] [⟨none,[((some 13),.op (.jx .eql (.tmp 3) (.val (.val (.string ⟨#[115,116,97,114,116]⟩))))),aa 12 13]⟩]) <|
  .cond (.tmp 12) (.seq (aB [aI 2 7]) <|
  .ret) (.seq (.region [] [⟨none,[((some 15),.op (.jx .eql (.tmp 3) (.val (.val (.string ⟨#[112,114,101,99]⟩))))),aa 14 15]⟩]) <|
  .cond (.tmp 14) (.seq (aB [aI 2 8]) <|
  .ret) (.skip)))))))) <|
  .seq (aB [aI 2 0]) <|
  .ret,
  [.tmp 2],16⟩
theorem sA:bM Tryz.prog 245 []=some mn:=by kernel_rfl
def qa:DF:=⟨.seq (aB [aI 2 0]) <|
  .seq (.seq (aB [aa 3 0]) <|
  .block 0 (.seq (aB [((some 5),.op (.arith .eql (.tmp 3) (.val (.val (.int .u8 58))))),aa 4 5]) <|
  .cond (.tmp 4) (.seq (aB [aI 2 10]) <|
  .ret) (.seq (aB [((some 7),.op (.arith .eql (.tmp 3) (.val (.val (.int .u8 124))))),aa 6 7]) <|
  .cond (.tmp 6) (.seq (aB [aI 2 11]) <|
  .ret) (.seq (aB [((some 9),.op (.arith .eql (.tmp 3) (.val (.val (.int .u8 59))))),aa 8 9]) <|
  .cond (.tmp 8) (.seq (aB [aI 2 12]) <|
  .ret) (.skip))))) <|
  .seq (aB [aI 2 0]) <|
  .ret,
  [.tmp 2],10⟩
theorem vI:bM Tryz.prog 246 []=some qa:=by kernel_rfl
def zq:DC :=
  .seq (.seq (.region [] [⟨none,[aa 21 7,bz 22 21,au 23 3 22,ao 24 23,az 25 .eql 24 0,aa 26 25]⟩,⟨(some (26,true)),[aa 27 7,bz 28 27,au 29 0 28,ao 30 29,aM 31 30,az 32 .gtr 31 0]⟩,⟨none,[bF 33 26 32,aa 34 33]⟩,⟨(some (34,true)),[aa 35 7,aQ 36 204 [35],az 37 .neq 36 9]⟩,⟨none,[bF 38 34 37]⟩]) <|
  .cond (.tmp 38) (.skip) (.exit 0)) <|
  .block 1 (.region [(1,3)] [⟨none,[au 39 1 8,ao 40 39,aa 41 7,aQ 42 203 [41],((some 43),.op (.app 5 88 (.tmp 40) (.tmp 42))),au 44 1 8,(none,.op (.store 1 (.tmp 44) (.tmp 43)))]⟩])
def sj:DF:=⟨.seq (aB [((some 4),.op (.alloc [(.emp 1),(.emp 1)])),((some 5),.op (.bo (.val (.val (.complex .f64 0 0))))),aI 6 0]) <|
  .seq (aB [aa 9 0,aa 10 1,((some 11),.op (.build [(.emp 1),(.val (.complex .f64 0 0)),(.val (.complex .f64 0 0)),(.val (.int .i64 0))] [(0,1,(.tmp 9)),(1,1,(.tmp 10))])),((some 12),.op (.box (.tmp 11))),aa 7 12]) <|
  .seq (aB [aa 13 7,aQ 14 201 [13],((some 15),.op (.build [(.emp 1),(.emp 1)] [(0,1,(.tmp 14))])),((some 8),.op (.alloc [(.emp 1),(.emp 1)])),(none,.op (.store 2 (.tmp 8) (.tmp 15)))]) <|
  .seq (aB [aa 16 7,cZ 17 202 [(.tmp 16),(.val (.val (.int .i64 9))),(.val (.val (.int .i64 9)))]]) <|
  .seq (aB [aa 18 7,aQ 19 203 [18],au 20 1 8,(none,.op (.store 1 (.tmp 20) (.tmp 19)))]) <|
  .seq (.block 0 (.loop zq)) <|
  .seq (.seq (.region [] [⟨none,[aa 45 7,bz 46 45,au 47 3 46,ao 48 47,az 49 .eql 48 0,aa 50 49]⟩,⟨(some (50,true)),[aa 51 7,bz 52 51,au 53 0 52,ao 54 53,aM 55 54,az 56 .gtr 55 0]⟩,⟨none,[bF 57 50 56]⟩]) <|
  .cond (.tmp 57) (aB [aa 58 7,cZ 59 202 [(.tmp 58),(.val (.val (.int .i64 9))),(.val (.val (.int .i64 9)))]]) (.skip)) <|
  .seq (.seq (aB [aa 60 7,bz 61 60,au 62 0 61,ao 63 62,aM 64 63,az 65 .gtr 64 0]) <|
  .cond (.tmp 65) (aB [aa 66 7,aQ 67 205 [66]]) (.skip)) <|
  .seq (.seq (aB [aa 68 7,bz 69 68,au 70 3 69,ao 71 70,az 72 .neq 71 0]) <|
  .cond (.tmp 72) (.seq (.region [(4,9),(8,9)] [⟨none,[((some 73),.op (.build [(.emp 1),(.emp 1)] [])),aa 74 7,bz 75 74,au 76 2 75,ao 77 76,aa 78 7,bz 79 78,au 80 3 79,ao 81 80,(none,.op (.store 2 (.tmp 4) (.tmp 73))),aa 5 77,aa 6 81]⟩]) <|
  .ret) (.skip)) <|
  .seq (aB [aO 82 2 8,(none,.op (.store 2 (.tmp 4) (.tmp 82))),((some 5),.op (.bo (.val (.val (.complex .f64 0 0))))),aI 6 0]) <|
  .ret,
  [.cell 4 (some 2),.tmp 5,.tmp 6],83⟩
theorem x7:bM Tryz.prog 141 []=some sj:=by kernel_rfl
def jI:DF:=⟨.seq (aB [aI 2 0]) <|
  .seq (.seq (.region [] [⟨none,[aa 3 0,bz 4 3,au 5 3 4,ao 6 5,az 7 .neq 6 0,aa 8 7]⟩,⟨(some (8,false)),[aa 9 0,bz 10 9,au 11 0 10,ao 12 11,aM 13 12,az 14 .eql 13 0]⟩,⟨none,[bB 15 8 14]⟩]) <|
  .cond (.tmp 15) (.seq (aB [aI 2 0]) <|
  .ret) (.skip)) <|
  .seq (aB [aa 16 0,bz 17 16,au 18 0 17,ao 19 18,((some 20),.op (.idx 3 (.tmp 19) (.val (.val (.int .i64 0))))),au 21 0 20,ao 22 21,aa 2 22]) <|
  .ret,
  [.tmp 2],23⟩
theorem pr:bM Tryz.prog 204 []=some jI:=by kernel_rfl
def pg:DC :=
  .seq (.seq (aB [aa 10 0,bz 11 10,au 12 3 11,ao 13 12,az 14 .eql 13 0]) <|
  .cond (.tmp 14) (.skip) (.exit 0)) <|
  .block 1 (.seq (.region [(0,2),(2,4)] [⟨none,[aO 15 2 4,aa 16 0,aQ 17 247 [16],((some 18),.op (.build [(.val (.string ⟨#[]⟩)),(.val (.complex .f64 0 0)),(.emp 1),(.val (.string ⟨#[]⟩)),(.val (.complex .f64 0 0))] [(0,2,(.tmp 15)),(2,1,(.tmp 17))])),((some 5),.op (.alloc [(.val (.string ⟨#[]⟩)),(.val (.complex .f64 0 0)),(.emp 1),(.val (.string ⟨#[]⟩)),(.val (.complex .f64 0 0))])),(none,.op (.store 5 (.tmp 5) (.tmp 18)))]⟩]) <|
  .seq (.seq (aB [aa 19 0,cZ 20 248 [(.tmp 19),(.val (.val (.int .i64 8))),(.val (.val (.int .i64 8)))]]) <|
  .cond (.tmp 20) (.seq (aB [aa 21 0,cZ 22 202 [(.tmp 21),(.val (.val (.int .i64 8))),(.val (.val (.int .i64 8)))]]) <|
  aB [aa 23 0,cZ 24 202 [(.tmp 23),(.val (.val (.int .i64 1))),(.val (.val (.int .i64 2)))],au 25 3 5,(none,.op (.store 2 (.tmp 25) (.tmp 24)))]) (.skip)) <|
  .seq (.region [] [⟨none,[aa 26 3,aO 27 5 5,((some 28),.op (.bh 1 5 [(.val (.string ⟨#[]⟩)),(.val (.complex .f64 0 0)),(.emp 1),(.val (.string ⟨#[]⟩)),(.val (.complex .f64 0 0))] [(0,(.tmp 27))])),((some 29),.op (.app 5 88 (.tmp 26) (.tmp 28))),aa 3 29]⟩]) <|
  .seq (.seq (aB [aa 30 0,cZ 31 248 [(.tmp 30),(.val (.val (.int .i64 11))),(.val (.val (.int .i64 11)))],bX 32 31]) <|
  .cond (.tmp 32) (.seq (aB [aa 33 0,cZ 34 202 [(.tmp 33),(.val (.val (.int .i64 12))),(.val (.val (.int .i64 12)))]]) <|
  .seq (aB [aa 35 3,aa 2 35]) <|
  .ret) (.skip)) <|
  aB [aa 36 0,cZ 37 202 [(.tmp 36),(.val (.val (.int .i64 11))),(.val (.val (.int .i64 11)))]])
def jd:DF:=⟨.seq (aB [((some 2),.op (.bo (.val (.emp 1))))]) <|
  .seq (aB [((some 3),.op (.bo (.val (.emp 1))))]) <|
  .seq (.region [] [⟨none,[aa 6 0,cZ 7 202 [(.tmp 6),(.val (.val (.int .i64 1))),(.val (.val (.int .i64 1)))],((some 4),.op (.alloc [(.val (.string ⟨#[]⟩)),(.val (.complex .f64 0 0))])),(none,.op (.store 2 (.tmp 4) (.tmp 7)))]⟩]) <|
  .seq (aB [aa 8 0,cZ 9 202 [(.tmp 8),(.val (.val (.int .i64 10))),(.val (.val (.int .i64 10)))]]) <|
  .seq (.block 0 (.loop pg)) <|
  .seq (aB [aa 38 3,aa 2 38]) <|
  .ret,
  [.tmp 2],39⟩
theorem nV:bM Tryz.prog 203 []=some jd:=by kernel_rfl
def qv:DC :=
  .seq (.seq (aB [aa 4 0,cZ 5 248 [(.tmp 4),(.val (.val (.int .i64 1))),(.val (.val (.int .i64 2)))]]) <|
  .cond (.tmp 5) (.skip) (.exit 0)) <|
  .block 1 (.region [] [⟨none,[aa 6 3,aa 7 0,cZ 8 202 [(.tmp 7),(.val (.val (.int .i64 1))),(.val (.val (.int .i64 2)))],((some 9),.op (.bh 1 2 [(.val (.string ⟨#[]⟩)),(.val (.complex .f64 0 0))] [(0,(.tmp 8))])),((some 10),.op (.app 2 32 (.tmp 6) (.tmp 9))),aa 3 10]⟩])
def jL:DF:=⟨.seq (aB [((some 2),.op (.bo (.val (.emp 1))))]) <|
  .seq (aB [((some 3),.op (.bo (.val (.emp 1))))]) <|
  .seq (.block 0 (.loop qv)) <|
  .seq (aB [aa 11 3,aa 2 11]) <|
  .ret,
  [.tmp 2],12⟩
theorem pe:bM Tryz.prog 247 []=some jL:=by kernel_rfl
def k9:DF:=⟨.seq (aB [aZ 6 false]) <|
  .seq (.region [] [⟨none,[aa 7 0,bz 8 7,au 9 0 8,ao 10 9,aM 11 10,az 12 .gtr 11 0,aa 13 12]⟩,⟨(some (13,true)),[aa 14 0,aQ 15 204 [14],aa 16 1,aR 17 .eql 15 16,aa 18 17]⟩,⟨(some (18,false)),[aa 19 0,aQ 20 204 [19],aa 21 2,aR 22 .eql 20 21]⟩,⟨(some (13,true)),[bB 23 18 22]⟩,⟨none,[bF 24 13 23,aa 6 24]⟩]) <|
  .ret,
  [.tmp 6],25⟩
theorem qS:bM Tryz.prog 248 []=some k9:=by kernel_rfl
def jJ:DF:=⟨.seq (.region [] [⟨none,[((some 6),.op (.alloc [(.val (.string ⟨#[]⟩)),(.val (.complex .f64 0 0))]))]⟩]) <|
  .seq (.seq (.region [] [⟨none,[aa 8 0,bz 9 8,au 10 3 9,ao 11 10,az 12 .neq 11 0,aa 13 12]⟩,⟨(some (13,false)),[aa 14 0,aa 15 1,aa 16 2,aQ 17 248 [14,15,16],bX 18 17]⟩,⟨none,[bB 19 13 18]⟩]) <|
  .cond (.tmp 19) (.seq (aB [aa 20 0,aQ 21 205 [20]]) <|
  .seq (.region [] [⟨none,[((some 22),.op (.build [(.val (.string ⟨#[]⟩)),(.val (.complex .f64 0 0))] [])),(none,.op (.store 2 (.tmp 6) (.tmp 22)))]⟩]) <|
  .ret) (.skip)) <|
  .seq (.region [] [⟨none,[aa 23 0,bz 24 23,au 25 0 24,ao 26 25,((some 27),.op (.idx 3 (.tmp 26) (.val (.val (.int .i64 0))))),aO 28 3 27,((some 7),.op (.alloc [(.val (.int .i64 0)),(.val (.string ⟨#[]⟩)),(.val (.complex .f64 0 0))])),(none,.op (.store 3 (.tmp 7) (.tmp 28)))]⟩]) <|
  .seq (aB [aa 29 0,aa 30 0,bz 31 30,au 32 0 31,ao 33 32,((some 34),.op (.slice 3 (.tmp 33) (some (.val (.val (.int .i64 1)))) none)),bz 35 29,au 36 0 35,(none,.op (.store 1 (.tmp 36) (.tmp 34)))]) <|
  .seq (.region [] [⟨none,[au 37 1 7,ao 38 37,au 39 2 7,ao 40 39,((some 41),.op (.build [(.val (.string ⟨#[]⟩)),(.val (.complex .f64 0 0))] [(0,1,(.tmp 38)),(1,1,(.tmp 40))])),(none,.op (.store 2 (.tmp 6) (.tmp 41)))]⟩]) <|
  .ret,
  [.cell 6 (some 2)],42⟩
theorem pn:bM Tryz.prog 202 []=some jJ:=by kernel_rfl
def jG:DF:=⟨.seq (.seq (aB [aa 2 0,bz 3 2,au 4 3 3,ao 5 4,az 6 .neq 5 0]) <|
  .cond (.tmp 6) (.ret) (.skip)) <|
  .seq (aB [aa 7 0,aa 8 0,aa 9 0,bz 10 9,au 11 1 10,ao 12 11,bz 13 7,au 14 2 13,(none,.op (.store 1 (.tmp 14) (.tmp 12))),bz 15 8,au 16 3 15,(none,.op (.store 1 (.tmp 16) (.val (.val (.int .i64 4)))))]) <|
  .seq (aB [aa 17 0,bz 18 17,au 19 0 18,ao 20 19,aM 21 20,az 22 .gtr 21 0]) <|
  .cond (.tmp 22) (aB [aa 23 0,aa 24 0,aa 25 0,bz 26 25,au 27 0 26,ao 28 27,((some 29),.op (.idx 3 (.tmp 28) (.val (.val (.int .i64 0))))),au 30 2 29,ao 31 30,bz 32 23,au 33 2 32,(none,.op (.store 1 (.tmp 33) (.tmp 31))),bz 34 24,au 35 3 34,(none,.op (.store 1 (.tmp 35) (.val (.val (.int .i64 3)))))]) (.skip),
  [],36⟩
theorem oS:bM Tryz.prog 205 []=some jG:=by kernel_rfl
def oT:DC :=
  .seq (.seq (.region [] [⟨none,[aa 6 0,bz 7 6,au 8 3 7,ao 9 8,az 10 .eql 9 0,aa 11 10]⟩,⟨(some (11,true)),[aa 12 0,bz 13 12,au 14 0 13,ao 15 14,aM 16 15,az 17 .gtr 16 0]⟩,⟨none,[bF 18 11 17,aa 19 18]⟩,⟨(some (19,true)),[aa 20 0,aQ 21 204 [20],az 22 .neq 21 9]⟩,⟨none,[bF 23 19 22]⟩]) <|
  .cond (.tmp 23) (.skip) (.exit 0)) <|
  .block 1 (.seq (aB [aa 24 0,aQ 25 204 [24],aa 4 25]) <|
  .seq (.seq (aB [aa 26 4,az 27 .eql 26 7]) <|
  .cond (.tmp 27) (.seq (aB [aa 28 0,aa 29 4,aa 30 4,aQ 31 202 [28,29,30]]) <|
  .seq (.region [] [⟨none,[aa 32 3,aa 33 4,aa 34 0,cZ 35 202 [(.tmp 34),(.val (.val (.int .i64 1))),(.val (.val (.int .i64 1)))],((some 36),.op (.bh 1 2 [(.val (.string ⟨#[]⟩)),(.val (.complex .f64 0 0))] [(0,(.tmp 35))])),((some 37),.op (.build [(.val (.int .i64 0)),(.emp 1)] [(0,1,(.tmp 33)),(1,1,(.tmp 36))])),((some 38),.op (.bh 1 2 [(.val (.int .i64 0)),(.emp 1)] [(0,(.tmp 37))])),((some 39),.op (.app 2 32 (.tmp 32) (.tmp 38))),aa 3 39]⟩]) <|
  .exit 1) (.skip)) <|
  .seq (.seq (.region [] [⟨none,[aa 40 4,az 41 .neq 40 3,aa 42 41]⟩,⟨(some (42,true)),[aa 43 4,az 44 .neq 43 4]⟩,⟨none,[bF 45 42 44,aa 46 45]⟩,⟨(some (46,true)),[aa 47 4,az 48 .neq 47 5]⟩,⟨none,[bF 49 46 48,aa 50 49]⟩,⟨(some (50,true)),[aa 51 4,az 52 .neq 51 6]⟩,⟨none,[bF 53 50 52]⟩]) <|
  .cond (.tmp 53) (.seq (aB [aa 54 0,aQ 55 205 [54]]) <|
  .exit 1) (.skip)) <|
  .seq (aB [aa 56 0,aa 57 4,aa 58 4,aQ 59 202 [56,57,58]]) <|
  .seq (.region [] [⟨none,[aa 60 0,cZ 61 202 [(.tmp 60),(.val (.val (.int .i64 1))),(.val (.val (.int .i64 2)))],((some 5),.op (.alloc [(.val (.string ⟨#[]⟩)),(.val (.complex .f64 0 0))])),(none,.op (.store 2 (.tmp 5) (.tmp 61)))]⟩]) <|
  .region [(2,5),(3,5)] [⟨none,[aa 62 3,aa 63 4,aO 64 2 5,((some 65),.op (.bh 1 2 [(.val (.string ⟨#[]⟩)),(.val (.complex .f64 0 0))] [(0,(.tmp 64))])),aa 66 0,aQ 67 247 [66],((some 68),.op (.app 2 32 (.tmp 65) (.tmp 67))),((some 69),.op (.build [(.val (.int .i64 0)),(.emp 1)] [(0,1,(.tmp 63)),(1,1,(.tmp 68))])),((some 70),.op (.bh 1 2 [(.val (.int .i64 0)),(.emp 1)] [(0,(.tmp 69))])),((some 71),.op (.app 2 32 (.tmp 62) (.tmp 70))),aa 3 71]⟩])
def jh:DF:=⟨.seq (aB [((some 2),.op (.bo (.val (.emp 1))))]) <|
  .seq (aB [((some 3),.op (.bo (.val (.emp 1))))]) <|
  .seq (.block 0 (.loop oT)) <|
  .seq (aB [aa 72 3,aa 2 72]) <|
  .ret,
  [.tmp 2],73⟩
theorem nW:bM Tryz.prog 201 []=some jh:=by kernel_rfl
def uZ:DC :=
  .seq (.seq (.region [] [⟨none,[aa 17 6,au 18 1 1,ao 19 18,aM 20 19,aR 21 .lss 17 20,aa 22 21]⟩,⟨(some (22,true)),[aa 23 5,bz 24 23,au 25 10 24,ao 26 25,az 27 .eql 26 0]⟩,⟨none,[bF 28 22 27]⟩]) <|
  .cond (.tmp 28) (.skip) (.exit 0)) <|
  .seq (.block 1 (aB [aa 31 5,au 32 1 1,ao 33 32,aa 34 6,aS 35 5 33 34,aO 36 5 35,aQ 37 144 [31,36]])) <|
  aB [aa 29 6,az 30 .add 29 1,aa 6 30]
def oh:DF:=⟨.seq (aB [bW 1 0,((some 2),.op (.alloc [(.emp 1),(.emp 1),(.emp 1),(.val (.int .i64 0))])),((some 3),.op (.bo (.val (.val (.complex .f64 0 0))))),aI 4 0]) <|
  .seq (.region [] [⟨none,[((some 7),.op (.build [(.emp 1),(.emp 1),(.emp 1),(.val (.int .i64 0)),(.emp 1),(.val (.string ⟨#[]⟩)),(.val (.complex .f64 0 0)),(.val (.bool false)),(.val (.int .i64 0)),(.val (.complex .f64 0 0)),(.val (.int .i64 0))] [])),((some 8),.op (.box (.tmp 7))),aa 5 8]⟩]) <|
  .seq (aB [aa 9 5,au 10 0 1,ao 11 10,aQ 12 142 [9,11]]) <|
  .seq (aB [aa 13 5,au 14 1 1,ao 15 14,aQ 16 143 [13,15]]) <|
  .seq (.seq (aB [aI 6 0]) <|
  .block 0 (.loop uZ)) <|
  .seq (.seq (.region [] [⟨none,[aa 38 5,bz 39 38,au 40 7 39,ao 41 40,aa 42 41]⟩,⟨(some (42,true)),[aa 43 5,bz 44 43,au 45 0 44,aO 46 4 45,aa 47 5,bz 48 47,au 49 5 48,au 50 0 49,ao 51 50,aQ 52 145 [46,51],az 53 .lss 52 0]⟩,⟨none,[bF 54 42 53]⟩]) <|
  .cond (.tmp 54) (aB [aa 55 5,aa 56 5,bz 57 56,au 58 5 57,aO 59 2 58,cZ 60 146 [(.tmp 55),(.tmp 59),(.val (.val (.int .i64 8)))]]) (.skip)) <|
  .seq (.seq (aB [au 61 1 1,ao 62 61,aM 63 62,az 64 .eql 63 0]) <|
  .cond (.tmp 64) (.region [] [⟨none,[aa 65 5,((some 66),.op (.build [(.val (.string ⟨#[]⟩)),(.val (.complex .f64 0 0))] [])),cZ 67 146 [(.tmp 65),(.tmp 66),(.val (.val (.int .i64 8)))]]⟩]) (.skip)) <|
  .seq (.seq (aB [aa 68 5,bz 69 68,au 70 10 69,ao 71 70,az 72 .neq 71 0]) <|
  .cond (.tmp 72) (.seq (.region [(4,9),(8,9)] [⟨none,[((some 73),.op (.build [(.emp 1),(.emp 1),(.emp 1),(.val (.int .i64 0))] [])),aa 74 5,bz 75 74,au 76 9 75,ao 77 76,aa 78 5,bz 79 78,au 80 10 79,ao 81 80,(none,.op (.store 4 (.tmp 2) (.tmp 73))),aa 3 77,aa 4 81]⟩]) <|
  .ret) (.skip)) <|
  .seq (.seq (aB [aa 82 5,bz 83 82,au 84 7 83,ao 85 84]) <|
  .cond (.tmp 85) (aB [aa 86 5,aa 87 5,bz 88 87,au 89 0 88,aO 90 4 89,aa 91 5,bz 92 91,au 93 5 92,au 94 0 93,ao 95 94,aQ 96 145 [90,95],bz 97 86,au 98 0 97,au 99 3 98,(none,.op (.store 1 (.tmp 99) (.tmp 96)))]) (.skip)) <|
  .seq (aB [aa 100 5,bz 101 100,au 102 0 101,aO 103 4 102,(none,.op (.store 4 (.tmp 2) (.tmp 103))),((some 3),.op (.bo (.val (.val (.complex .f64 0 0))))),aI 4 0]) <|
  .ret,
  [.cell 2 (some 4),.tmp 3,.tmp 4],104⟩
theorem tY:bM Tryz.prog 99 [1]=some oh:=by kernel_rfl
def rW:DC :=
  .seq (.seq (.region [] [⟨none,[aa 28 5,au 29 2 3,ao 30 29,aM 31 30,aR 32 .lss 28 31,aa 33 32]⟩,⟨(some (33,true)),[aa 34 0,bz 35 34,au 36 10 35,ao 37 36,az 38 .eql 37 0]⟩,⟨none,[bF 39 33 38]⟩]) <|
  .cond (.tmp 39) (.skip) (.exit 0)) <|
  .seq (.block 1 (.seq (.region [] [⟨none,[au 42 2 3,ao 43 42,aa 44 5,aS 45 2 43 44,aO 46 2 45,((some 6),.op (.alloc [(.val (.string ⟨#[]⟩)),(.val (.complex .f64 0 0))])),(none,.op (.store 2 (.tmp 6) (.tmp 46)))]⟩]) <|
  .seq (.seq (aB [au 47 0 6,ao 48 47,aQ 49 168 [48],bX 50 49]) <|
  .cond (.tmp 50) (.seq (aB [aa 51 0,aO 52 2 6,cZ 53 146 [(.tmp 51),(.tmp 52),(.val (.val (.int .i64 3)))]]) <|
  .ret) (.skip)) <|
  .seq (.seq (aB [aa 54 5,az 55 .eql 54 6]) <|
  .cond (.tmp 55) (.seq (aB [aa 56 0,aO 57 2 6,cZ 58 146 [(.tmp 56),(.tmp 57),(.val (.val (.int .i64 5)))]]) <|
  .ret) (.skip)) <|
  .seq (aB [aa 59 0,aO 60 2 6,cZ 61 207 [(.tmp 59),(.tmp 60),(.val (.val (.bool true)))],aa 7 61]) <|
  .seq (aB [au 62 1 4,ao 63 62,aa 64 7,((some 65),.op (.bh 1 1 [(.val (.int .i64 0))] [(0,(.tmp 64))])),((some 66),.op (.app 1 8 (.tmp 63) (.tmp 65))),au 67 1 4,(none,.op (.store 1 (.tmp 67) (.tmp 66)))]) <|
  .seq (aB [aa 68 7,az 69 .geq 68 0]) <|
  .cond (.tmp 69) (aB [aa 70 7,au 71 2 4,(none,.op (.store 1 (.tmp 71) (.tmp 70)))]) (.skip))) <|
  aB [aa 40 5,az 41 .add 40 1,aa 5 41]
def kS:DF:=⟨.seq (aB [bW 3 1]) <|
  .seq (.region [(7,9)] [⟨none,[aa 8 0,bz 9 8,au 10 0 9,aO 11 4 10,au 12 0 3,au 13 0 12,ao 14 13,aQ 15 145 [11,14],((some 16),.op (.build [(.val (.int .i64 0)),(.emp 1),(.val (.int .i64 0))] [(0,1,(.tmp 15)),(2,1,(.val (.val (.int .i64 (-1)))))])),((some 4),.op (.alloc [(.val (.int .i64 0)),(.emp 1),(.val (.int .i64 0))])),(none,.op (.store 3 (.tmp 4) (.tmp 16)))]⟩]) <|
  .seq (.seq (aB [aa 17 0,bz 18 17,au 19 0 18,au 20 2 19,ao 21 20,aM 22 21,az 23 .eql 22 40]) <|
  .cond (.tmp 23) (aB [aa 24 0,au 25 0 3,aO 26 2 25,cZ 27 146 [(.tmp 24),(.tmp 26),(.val (.val (.int .i64 5)))]]) (.skip)) <|
  .seq (.seq (aB [aI 5 0]) <|
  .block 0 (.loop rW)) <|
  .seq (.seq (.region [] [⟨none,[au 72 3 3,au 73 0 72,ao 74 73,((some 75),.op (.jx .neq (.tmp 74) (.val (.val (.string ⟨#[]⟩))))),aa 76 75]⟩,⟨(some (76,true)),[aa 77 0,bz 78 77,au 79 10 78,ao 80 79,az 81 .eql 80 0]⟩,⟨none,[bF 82 76 81]⟩]) <|
  .cond (.tmp 82) (.seq (.seq (aB [au 83 3 3,au 84 0 83,ao 85 84,aQ 86 168 [85],bX 87 86]) <|
  .cond (.tmp 87) (.seq (aB [aa 88 0,au 89 3 3,aO 90 2 89,cZ 91 146 [(.tmp 88),(.tmp 90),(.val (.val (.int .i64 3)))]]) <|
  .ret) (.skip)) <|
  aB [aa 92 0,au 93 3 3,aO 94 2 93,cZ 95 207 [(.tmp 92),(.tmp 94),(.val (.val (.bool false)))],au 96 2 4,(none,.op (.store 1 (.tmp 96) (.tmp 95)))]) (.skip)) <|
  aB [aa 97 0,aa 98 0,bz 99 98,au 100 0 99,au 101 2 100,ao 102 101,aO 103 3 4,((some 104),.op (.bh 1 3 [(.val (.int .i64 0)),(.emp 1),(.val (.int .i64 0))] [(0,(.tmp 103))])),((some 105),.op (.app 3 40 (.tmp 102) (.tmp 104))),bz 106 97,au 107 0 106,au 108 2 107,(none,.op (.store 1 (.tmp 108) (.tmp 105)))],
  [],109⟩
theorem qM:bM Tryz.prog 144 [3]=some kS:=by kernel_rfl
def oO:DF:=⟨.seq (aB [aZ 2 false]) <|
  .seq (.region [] [⟨none,[aa 3 0,aQ 4 171 [3],aa 5 4]⟩,⟨(some (5,false)),[aa 6 0,aQ 7 217 [6]]⟩,⟨none,[bB 8 5 7,aa 2 8]⟩]) <|
  .ret,
  [.tmp 2],9⟩
theorem uL:bM Tryz.prog 168 []=some oO:=by kernel_rfl
def wv:DC :=
  .seq (.seq (aB [aa 18 3,aa 19 0,((some 20),.op (.ik (.tmp 19))),aR 21 .lss 18 20]) <|
  .cond (.tmp 21) (.skip) (.exit 0)) <|
  .seq (.block 1 (.seq (aB [aa 24 0,aa 25 3,((some 26),.op (.dB (.tmp 24) (.tmp 25))),aQ 27 219 [26],bX 28 27]) <|
  .cond (.tmp 28) (.seq (aB [aZ 2 false]) <|
  .ret) (.skip))) <|
  aB [aa 22 3,az 23 .add 22 1,aa 3 23]
def qz:DF:=⟨.seq (aB [aZ 2 false]) <|
  .seq (.seq (.region [] [⟨none,[aa 4 0,((some 5),.op (.ik (.tmp 4))),az 6 .eql 5 0,aa 7 6]⟩,⟨(some (7,false)),[aa 8 0,((some 9),.op (.ik (.tmp 8))),az 10 .gtr 9 20]⟩,⟨none,[bB 11 7 10,aa 12 11]⟩,⟨(some (12,false)),[aa 13 0,((some 14),.op (.dB (.tmp 13) (.val (.val (.int .i64 0))))),aQ 15 218 [14],bX 16 15]⟩,⟨none,[bB 17 12 16]⟩]) <|
  .cond (.tmp 17) (.seq (aB [aZ 2 false]) <|
  .ret) (.skip)) <|
  .seq (.seq (aB [aI 3 0]) <|
  .block 0 (.loop wv)) <|
  .seq (aB [aZ 2 true]) <|
  .ret,
  [.tmp 2],29⟩
theorem uW:bM Tryz.prog 171 []=some qz:=by kernel_rfl
def lf:DF:=⟨.seq (aB [bW 4 1]) <|
  .seq (aB [aa 6 0,bz 7 6,au 8 10 7,ao 9 8,az 10 .eql 9 0]) <|
  .cond (.tmp 10) (aB [aa 11 0,aa 12 0,au 13 1 4,ao 14 13,aa 15 2,bz 16 11,au 17 9 16,(none,.op (.store 1 (.tmp 17) (.tmp 14))),bz 18 12,au 19 10 18,(none,.op (.store 1 (.tmp 19) (.tmp 15)))]) (.skip),
  [],20⟩
theorem qT:bM Tryz.prog 146 [4]=some lf:=by kernel_rfl
def jz:DF:=⟨.seq (aB [bW 4 1,aI 6 0]) <|
  .seq (aB [aa 8 0,bz 9 8,au 10 0 9,aO 11 4 10,au 12 0 4,ao 13 12,aQ 14 145 [11,13],aa 7 14]) <|
  .seq (.block 0 (.seq (.region [] [⟨none,[aa 19 7,az 20 .geq 19 0,aa 21 20]⟩,⟨(some (21,true)),[aa 22 2]⟩,⟨none,[bF 23 21 22,aa 18 23]⟩]) <|
  .cond (.tmp 18) (.seq (aB [aa 24 7,((some 25),.op (.arith .sub (.val (.val (.int .i64 (-1)))) (.tmp 24))),aa 6 25]) <|
  .ret) (.seq (aB [aa 27 7,az 28 .geq 27 0,aa 26 28]) <|
  .cond (.tmp 26) (aB [aa 29 0,aO 30 2 4,cZ 31 146 [(.tmp 29),(.tmp 30),(.val (.val (.int .i64 6)))]]) (.seq (.region [] [⟨none,[aa 33 0,bz 34 33,au 35 0 34,aO 36 4 35,au 37 0 4,ao 38 37,aQ 39 169 [36,38],az 40 .geq 39 0,aa 41 40]⟩,⟨(some (41,false)),[au 42 0 4,ao 43 42,aQ 44 217 [43]]⟩,⟨none,[bB 45 41 44,aa 46 45]⟩,⟨(some (46,false)),[au 47 0 4,ao 48 47,((some 49),.op (.jx .eql (.tmp 48) (.val (.val (.string ⟨#[101,114,114,111,114]⟩)))))]⟩,⟨none,[bB 50 46 49,aa 32 50]⟩]) <|
  .cond (.tmp 32) (.seq (aB [aa 51 0,aO 52 2 4,aQ 53 250 [51,52],aa 6 53]) <|
  .ret) (aB [aa 15 0,aO 16 2 4,cZ 17 146 [(.tmp 15),(.tmp 16),(.val (.val (.int .i64 6)))]]))))) <|
  .seq (aB [aI 6 0]) <|
  .ret,
  [.tmp 6],54⟩
theorem po:bM Tryz.prog 207 [4]=some jz:=by kernel_rfl
def x9:DC :=
  .seq (.seq (aB [aa 6 5,au 7 1 2,ao 8 7,aM 9 8,aR 10 .lss 6 9]) <|
  .cond (.tmp 10) (.skip) (.exit 0)) <|
  .seq (.block 1 (.seq (aB [au 13 1 2,ao 14 13,aa 15 5,aS 16 1 14 15,ao 17 16,aa 18 1,((some 19),.op (.jx .eql (.tmp 17) (.tmp 18)))]) <|
  .cond (.tmp 19) (.seq (aB [aa 20 5,aa 4 20]) <|
  .ret) (.skip))) <|
  aB [aa 11 5,az 12 .add 11 1,aa 5 12]
def rq:DF:=⟨.seq (aB [bW 2 0,aI 4 0]) <|
  .seq (.seq (aB [aI 5 0]) <|
  .block 0 (.loop x9)) <|
  .seq (aB [aI 4 (-1)]) <|
  .ret,
  [.tmp 4],21⟩
theorem w7:bM Tryz.prog 145 [2]=some rq:=by kernel_rfl
def wg:DC :=
  .seq (.seq (aB [aa 6 5,au 7 0 2,ao 8 7,aM 9 8,aR 10 .lss 6 9]) <|
  .cond (.tmp 10) (.skip) (.exit 0)) <|
  .seq (.block 1 (.seq (aB [au 13 0 2,ao 14 13,aa 15 5,aS 16 3 14 15,au 17 0 16,ao 18 17,aa 19 1,((some 20),.op (.jx .eql (.tmp 18) (.tmp 19)))]) <|
  .cond (.tmp 20) (.seq (aB [aa 21 5,aa 4 21]) <|
  .ret) (.skip))) <|
  aB [aa 11 5,az 12 .add 11 1,aa 5 12]
def qj:DF:=⟨.seq (aB [bW 2 0,aI 4 0]) <|
  .seq (.seq (aB [aI 5 0]) <|
  .block 0 (.loop wg)) <|
  .seq (aB [aI 4 (-1)]) <|
  .ret,
  [.tmp 4],22⟩
theorem vm:bM Tryz.prog 169 [2]=some qj:=by kernel_rfl
def iS:DF:=⟨.seq (aB [bW 3 1,aI 4 0]) <|
  .seq (aB [aa 6 0,bz 7 6,au 8 0 7,aO 9 4 8,au 10 0 3,ao 11 10,aQ 12 169 [9,11],aa 5 12]) <|
  .seq (.seq (aB [aa 13 5,az 14 .geq 13 0]) <|
  .cond (.tmp 14) (.seq (aB [aa 15 5,aa 4 15]) <|
  .ret) (.skip)) <|
  .seq (.seq (aB [aa 16 0,bz 17 16,au 18 0 17,au 19 0 18,ao 20 19,aM 21 20,az 22 .eql 21 24]) <|
  .cond (.tmp 22) (.seq (aB [aa 23 0,aO 24 2 3,cZ 25 146 [(.tmp 23),(.tmp 24),(.val (.val (.int .i64 5)))]]) <|
  .seq (aB [aI 4 0]) <|
  .ret) (.skip)) <|
  .seq (.region [] [⟨none,[aa 26 0,aa 27 0,bz 28 27,au 29 0 28,au 30 0 29,ao 31 30,au 32 0 3,ao 33 32,((some 34),.op (.build [(.val (.string ⟨#[]⟩)),(.val (.int .i64 0)),(.val (.int .i64 0))] [(0,1,(.tmp 33))])),((some 35),.op (.bh 1 3 [(.val (.string ⟨#[]⟩)),(.val (.int .i64 0)),(.val (.int .i64 0))] [(0,(.tmp 34))])),((some 36),.op (.app 3 32 (.tmp 31) (.tmp 35))),bz 37 26,au 38 0 37,au 39 0 38,(none,.op (.store 1 (.tmp 39) (.tmp 36)))]⟩]) <|
  .seq (aB [aa 40 0,bz 41 40,au 42 0 41,au 43 0 42,ao 44 43,aM 45 44,az 46 .sub 45 1,aa 4 46]) <|
  .ret,
  [.tmp 4],47⟩
theorem nE:bM Tryz.prog 250 [3]=some iS:=by kernel_rfl
def qU:DC :=
  .seq (.seq (.region [] [⟨none,[aa 60 7,au 61 1 5,ao 62 61,aM 63 62,aR 64 .lss 60 63,aa 65 64]⟩,⟨(some (65,true)),[aa 66 0,bz 67 66,au 68 10 67,ao 69 68,az 70 .eql 69 0]⟩,⟨none,[bF 71 65 70]⟩]) <|
  .cond (.tmp 71) (.skip) (.exit 2)) <|
  .seq (.block 3 (aB [aa 74 0,au 75 0 5,ao 76 75,au 77 1 5,ao 78 77,aa 79 7,aS 80 2 78 79,aO 81 2 80,aQ 82 206 [74,76,81]])) <|
  aB [aa 72 7,az 73 .add 72 1,aa 7 73]
def qV:DC :=
  .seq (.seq (.region [] [⟨none,[aa 8 4,aa 9 1,aM 10 9,aR 11 .lss 8 10,aa 12 11]⟩,⟨(some (12,true)),[aa 13 0,bz 14 13,au 15 10 14,ao 16 15,az 17 .eql 16 0]⟩,⟨none,[bF 18 12 17]⟩]) <|
  .cond (.tmp 18) (.skip) (.exit 0)) <|
  .seq (.block 1 (.seq (aB [aa 21 1,aa 22 4,aS 23 2 21 22,aO 24 2 23,((some 5),.op (.alloc [(.val (.int .i64 0)),(.emp 1)])),(none,.op (.store 2 (.tmp 5) (.tmp 24)))]) <|
  .seq (.seq (.region [] [⟨none,[au 25 0 5,ao 26 25,az 27 .lss 26 3,aa 28 27]⟩,⟨(some (28,false)),[au 29 0 5,ao 30 29,az 31 .gtr 30 7]⟩,⟨none,[bB 32 28 31]⟩]) <|
  .cond (.tmp 32) (.seq (.region [] [⟨none,[((some 33),.op (.build [(.val (.string ⟨#[]⟩)),(.val (.complex .f64 0 0))] [])),((some 6),.op (.alloc [(.val (.string ⟨#[]⟩)),(.val (.complex .f64 0 0))])),(none,.op (.store 2 (.tmp 6) (.tmp 33)))]⟩]) <|
  .seq (.seq (aB [au 34 1 5,ao 35 34,aM 36 35,az 37 .gtr 36 0]) <|
  .cond (.tmp 37) (aB [au 38 1 5,ao 39 38,((some 40),.op (.idx 2 (.tmp 39) (.val (.val (.int .i64 0))))),aO 41 2 40,(none,.op (.store 2 (.tmp 6) (.tmp 41)))]) (.skip)) <|
  .seq (aB [aa 42 0,aO 43 2 6,cZ 44 146 [(.tmp 42),(.tmp 43),(.val (.val (.int .i64 3)))]]) <|
  .ret) (.skip)) <|
  .seq (.seq (.region [] [⟨none,[au 45 0 5,ao 46 45,az 47 .neq 46 3,aa 48 47]⟩,⟨(some (48,true)),[au 49 0 5,ao 50 49,az 51 .neq 50 7]⟩,⟨none,[bF 52 48 51]⟩]) <|
  .cond (.tmp 52) (aB [aa 53 0,bz 54 53,au 55 8 54,ao 56 55,az 57 .add 56 1,bz 58 53,au 59 8 58,(none,.op (.store 1 (.tmp 59) (.tmp 57)))]) (.skip)) <|
  .seq (aB [aI 7 0]) <|
  .block 2 (.loop qU))) <|
  aB [aa 19 4,az 20 .add 19 1,aa 4 20]
def j5:DF:=⟨.seq (aB [aI 4 0]) <|
  .block 0 (.loop qV),
  [],83⟩
theorem p7:bM Tryz.prog 142 []=some j5:=by kernel_rfl
def jl:DF:=⟨.seq (aB [bW 5 2]) <|
  .block 0 (.seq (.region [] [⟨none,[au 63 0 5,ao 64 63,aQ 65 168 [64],bX 66 65,aa 67 66]⟩,⟨(some (67,false)),[aa 68 1,az 69 .eql 68 7,aa 70 69]⟩,⟨(some (70,true)),[au 71 0 5,ao 72 71,aQ 73 171 [72],bX 74 73]⟩,⟨(some (67,false)),[bF 75 70 74]⟩,⟨none,[bB 76 67 75,aa 62 76]⟩]) <|
  .cond (.tmp 62) (aB [aa 77 0,aO 78 2 5,cZ 79 146 [(.tmp 77),(.tmp 78),(.val (.val (.int .i64 3)))]]) (.seq (aB [aa 81 1,az 82 .eql 81 7,aa 80 82]) <|
  .cond (.tmp 80) (.seq (.seq (aB [aa 83 0,bz 84 83,au 85 7 84,ao 86 85]) <|
  .cond (.tmp 86) (aB [aa 87 0,aO 88 2 5,cZ 89 146 [(.tmp 87),(.tmp 88),(.val (.val (.int .i64 7)))]]) (.skip)) <|
  aB [aa 90 0,aa 91 0,aO 92 2 5,bz 93 90,au 94 5 93,(none,.op (.store 2 (.tmp 94) (.tmp 92))),bz 95 91,au 96 7 95,(none,.op (.store 1 (.tmp 96) (.val (.val (.bool true)))))]) (.seq (aB [aa 98 1,az 99 .eql 98 3,aa 97 99]) <|
  .cond (.tmp 97) (.seq (.seq (aB [aa 100 0,bz 101 100,au 102 4 101,ao 103 102,au 104 0 5,ao 105 104,aQ 106 249 [103,105]]) <|
  .cond (.tmp 106) (aB [aa 107 0,aO 108 2 5,cZ 109 146 [(.tmp 107),(.tmp 108),(.val (.val (.int .i64 7)))]]) (.skip)) <|
  .seq (.region [] [⟨none,[aa 110 0,aa 111 0,bz 112 111,au 113 4 112,ao 114 113,au 115 0 5,ao 116 115,((some 117),.op (.bh 1 1 [(.val (.string ⟨#[]⟩))] [(0,(.tmp 116))])),((some 118),.op (.app 1 16 (.tmp 114) (.tmp 117))),bz 119 110,au 120 4 119,(none,.op (.store 1 (.tmp 120) (.tmp 118)))]⟩]) <|
  aB [aa 121 0,aO 122 2 5,aQ 123 250 [121,122]]) (.seq (aB [aa 7 0,bz 8 7,au 9 0 8,aO 10 4 9,au 11 0 5,ao 12 11,aQ 13 169 [10,12],aa 6 13]) <|
  .seq (.seq (.region [] [⟨none,[aa 14 6,az 15 .geq 14 0,aa 16 15]⟩,⟨(some (16,true)),[aa 17 0,bz 18 17,au 19 0 18,au 20 0 19,ao 21 20,aa 22 6,aS 23 3 21 22,au 24 1 23,ao 25 24,az 26 .gtr 25 0]⟩,⟨none,[bF 27 16 26]⟩]) <|
  .cond (.tmp 27) (.seq (aB [aa 28 0,aO 29 2 5,cZ 30 146 [(.tmp 28),(.tmp 29),(.val (.val (.int .i64 7)))]]) <|
  .ret) (.skip)) <|
  .seq (aB [aa 31 0,aO 32 2 5,aQ 33 250 [31,32],aa 6 33]) <|
  .seq (aB [aa 34 0,bz 35 34,au 36 10 35,ao 37 36,az 38 .eql 37 0]) <|
  .cond (.tmp 38) (aB [aa 39 0,bz 40 39,au 41 0 40,au 42 0 41,ao 43 42,aa 44 6,aa 45 0,bz 46 45,au 47 0 46,au 48 0 47,ao 49 48,aa 50 6,aa 51 0,bz 52 51,au 53 8 52,ao 54 53,aa 55 1,az 56 .sub 55 4,az 57 .add 56 1,aS 58 3 43 44,au 59 1 58,(none,.op (.store 1 (.tmp 59) (.tmp 54))),aS 60 3 49 50,au 61 2 60,(none,.op (.store 1 (.tmp 61) (.tmp 57)))]) (.skip))))),
  [],124⟩
theorem nZ:bM Tryz.prog 206 [5]=some jl:=by kernel_rfl
def x4:DC :=
  .seq (.seq (aB [aa 6 5,aa 7 0,aM 8 7,aR 9 .lss 6 8]) <|
  .cond (.tmp 9) (.skip) (.exit 0)) <|
  .seq (.block 1 (.seq (aB [aa 12 0,aa 13 5,aS 14 1 12 13,ao 15 14,aa 16 1,((some 17),.op (.jx .eql (.tmp 15) (.tmp 16)))]) <|
  .cond (.tmp 17) (.seq (aB [aZ 4 true]) <|
  .ret) (.skip))) <|
  aB [aa 10 5,az 11 .add 10 1,aa 5 11]
def rh:DF:=⟨.seq (aB [aZ 4 false]) <|
  .seq (.seq (aB [aI 5 0]) <|
  .block 0 (.loop x4)) <|
  .seq (aB [aZ 4 false]) <|
  .ret,
  [.tmp 4],18⟩
theorem wT:bM Tryz.prog 249 []=some rh:=by kernel_rfl
def qW:DC :=
  .seq (.seq (.region [] [⟨none,[aa 6 4,aa 7 1,aM 8 7,aR 9 .lss 6 8,aa 10 9]⟩,⟨(some (10,true)),[aa 11 0,bz 12 11,au 13 10 12,ao 14 13,az 15 .eql 14 0]⟩,⟨none,[bF 16 10 15]⟩]) <|
  .cond (.tmp 16) (.skip) (.exit 0)) <|
  .seq (.block 1 (.seq (.region [] [⟨none,[aa 19 1,aa 20 4,aS 21 5 19 20,au 22 0 21,aO 23 2 22,((some 5),.op (.alloc [(.val (.string ⟨#[]⟩)),(.val (.complex .f64 0 0))])),(none,.op (.store 2 (.tmp 5) (.tmp 23)))]⟩]) <|
  .block 2 (.seq (aB [au 38 0 5,ao 39 38,aQ 40 171 [39],bX 41 40,aa 37 41]) <|
  .cond (.tmp 37) (aB [aa 42 0,aO 43 2 5,cZ 44 146 [(.tmp 42),(.tmp 43),(.val (.val (.int .i64 3)))]]) (.seq (aB [aa 46 0,bz 47 46,au 48 0 47,aO 49 4 48,au 50 0 5,ao 51 50,aQ 52 169 [49,51],az 53 .geq 52 0,aa 45 53]) <|
  .cond (.tmp 45) (aB [aa 54 0,aO 55 2 5,cZ 56 146 [(.tmp 54),(.tmp 55),(.val (.val (.int .i64 7)))]]) (.seq (aB [aa 58 0,bz 59 58,au 60 0 59,aO 61 4 60,au 62 0 5,ao 63 62,aQ 64 145 [61,63],az 65 .geq 64 0,aa 57 65]) <|
  .cond (.tmp 57) (.skip) (.seq (aB [aa 67 0,bz 68 67,au 69 0 68,au 70 1 69,ao 71 70,aM 72 71,az 73 .eql 72 16,aa 66 73]) <|
  .cond (.tmp 66) (aB [aa 74 0,aO 75 2 5,cZ 76 146 [(.tmp 74),(.tmp 75),(.val (.val (.int .i64 5)))]]) (.region [] [⟨none,[aa 24 0,aa 25 0,bz 26 25,au 27 0 26,au 28 1 27,ao 29 28,au 30 0 5,ao 31 30,((some 32),.op (.bh 1 1 [(.val (.string ⟨#[]⟩))] [(0,(.tmp 31))])),((some 33),.op (.app 1 16 (.tmp 29) (.tmp 32))),bz 34 24,au 35 0 34,au 36 1 35,(none,.op (.store 1 (.tmp 36) (.tmp 33)))]⟩]))))))) <|
  aB [aa 17 4,az 18 .add 17 1,aa 4 18]
def km:DF:=⟨.seq (aB [aI 4 0]) <|
  .block 0 (.loop qW),
  [],77⟩
theorem qg:bM Tryz.prog 143 []=some km:=by kernel_rfl
def CQ:List (FuncId × DF):=[(52,qJ),(98,oJ),(140,nf),(198,pU),(239,rr),(240,qi),(241,qD),(242,nt),(260,m3),(199,sK),(243,sT),(200,rv),(219,ow),(218,og),(217,mA),(244,l7),(245,mn),(246,qa),(141,sj),(204,jI),(203,jd),(247,jL),(248,k9),(202,jJ),(205,jG),(201,jh),(99,oh),(144,kS),(168,oO),(171,qz),(146,lf),(207,jz),(145,rq),(169,qj),(250,iS),(142,j5),(206,jl),(249,rh),(143,km)]
theorem Lg:tW Tryz.prog CQ:=by
  intro p hp
  simp only[CQ,List.mem_cons,List.not_mem_nil,or_false] at hp
  rcases hp with rfl | rfl | rfl | rfl | rfl | rfl | rfl | rfl | rfl | rfl | rfl | rfl | rfl | rfl | rfl | rfl | rfl | rfl | rfl | rfl | rfl | rfl | rfl | rfl | rfl | rfl | rfl | rfl | rfl | rfl | rfl | rfl | rfl | rfl | rfl | rfl | rfl | rfl | rfl
  · exact ⟨_,vJ⟩
  · exact ⟨_,um⟩
  · exact ⟨_,sZ⟩
  · exact ⟨_,vD⟩
  · exact ⟨_,xf⟩
  · exact ⟨_,vA⟩
  · exact ⟨_,u6⟩
  · exact ⟨_,s8⟩
  · exact ⟨_,s7⟩
  · exact ⟨_,xY⟩
  · exact ⟨_,xZ⟩
  · exact ⟨_,xl⟩
  · exact ⟨_,uw⟩
  · exact ⟨_,uB⟩
  · exact ⟨_,sL⟩
  · exact ⟨_,sx⟩
  · exact ⟨_,sA⟩
  · exact ⟨_,vI⟩
  · exact ⟨_,x7⟩
  · exact ⟨_,pr⟩
  · exact ⟨_,nV⟩
  · exact ⟨_,pe⟩
  · exact ⟨_,qS⟩
  · exact ⟨_,pn⟩
  · exact ⟨_,oS⟩
  · exact ⟨_,nW⟩
  · exact ⟨_,tY⟩
  · exact ⟨_,qM⟩
  · exact ⟨_,uL⟩
  · exact ⟨_,uW⟩
  · exact ⟨_,qT⟩
  · exact ⟨_,po⟩
  · exact ⟨_,w7⟩
  · exact ⟨_,vm⟩
  · exact ⟨_,nE⟩
  · exact ⟨_,p7⟩
  · exact ⟨_,nZ⟩
  · exact ⟨_,wT⟩
  · exact ⟨_,qg⟩
def wA (l:List Int):V:=.aX (l.map fun x=>[gy x])
theorem Li (l:List Int):Tree (wA l):=cL _ _ fun x _ v hv=>by simp at hv; subst hv; exact .val _
def me (g:ay):V:=.bf [.agg (aw g),.val (.complex .f64 0 0),gi 0]
theorem CO {l:List Int} {g:ay} (h:vd Tryz.prog CQ (fun _ _ _=>none) 52 [wA l]=some (me g)):cH Tryz.prog 52 [wA l] (me g) :=
  rB mixed Lg (PT _) (by intro v hv; simp at hv; subst hv; exact Li _) h
abbrev kn (κ:Type):=List (κ × V × Nat)
def fN {κ:Type} (key:κ→Value) (m:kn κ):List (V × V × Nat):=m.map fun x=>(.val (key x.1),x.2.1,x.2.2)
def getM {κ:Type} [BEq κ] (m:kn κ) (k:κ):Option V:=(m.find? fun x=>k == x.1).map (·.2.1)
def jv {κ:Type} [BEq κ] (k:κ) (v:V) (c:Nat):kn κ→kn κ
  | []=>[(k,v,c)]
  | x :: r=>if k == x.1 then (k,v,x.2.2) :: r else x :: jv k v c r
structure FG {κ:Type} [BEq κ] (P:Program) (kt:TypeId) (key:κ→Value):Prop where
  ty:∃ d,P.underlying kt=some d∧(∀ a b,Instr.sameNow d (key a) (key b)=some (a == b))∧(∀ a e,bj P (Instr.checkKey e 10000 kt (key a))=some ())
  bits:∀ a b,(a == b)=true→Instr.sameBits 10000 (key b) (key a)=true
theorem vZ {κ:Type} (key:κ→Value):∀ m:kn κ,ja (fN key m)=some (m.map fun x=>{ key:=key x.1,val:=.nilFunc,born:=x.2.2 })
  | []=>rfl
  | x :: r=>by
    have:=vZ key r
    simp only[fN] at this
    simp[fN,ja,cx,this]
def sH {κ:Type} [BEq κ] (k:κ):kn κ→Option Nat
  | []=>none
  | x :: r=>if k == x.1 then some 0 else (sH k r).map (·+1)
theorem Aj {κ:Type} [BEq κ] {key:κ→Value} {d:TypeDesc} (h:∀ a b,Instr.sameNow d (key a) (key b)=some (a == b)) (k:κ):∀ (m:kn κ) (i:Nat),
    Instr.findNow d (key k) (m.map fun x=>{ key:=key x.1,val:=.nilFunc,born:=x.2.2 }) i=some ((sH k m).map fun j=>(i+j,.nilFunc))
  | [],i=>rfl
  | x :: r,i=>by
    simp only[List.map_cons,Instr.findNow,h,sH]
    cases hk:k == x.1 with
    | true=>simp
    | false =>
      simp only[Aj h k r (i+1),Bool.false_eq_true,if_false,Option.map_map]
      congr 2
      funext j
      simp only[Function.comp]
      congr 1
      omega
theorem EN {κ:Type} [BEq κ] {P:Program} {kt:TypeId} {key:κ→Value} (h:FG P kt key) (k:κ) (e:Bool) (m:kn κ):pF P kt (.val (key k)) e (fN key m)=some (sH k m):=by
  obtain ⟨d,hd,hn,hc⟩:=h.ty
  have hu:bj P (underlying kt)=some d:=dD hd
  simp only[pF,cx,vZ,bb,hc,Option.bind_some]
  have:bj P (Instr.findKey kt (key k) (m.map fun x=>{ key:=key x.1,val:=.nilFunc,born:=x.2.2 }))=some ((sH k m).map fun j=>(0+j,.nilFunc)):=by
    unfold Instr.findKey
    rw[bb,hu,Option.bind_some,Aj hn]
    rfl
  rw[this]
  cases sH k m with
  | none=>rfl
  | some j=>simp
theorem K3 {P:Program} {kt:TypeId} {d:TypeDesc} (h:P.underlying kt=some d) (hd:match d with | .int _ | .string | .bool=>True | _=>False) (e:Bool) (n:Nat) (v:Value):bj P (Instr.checkKey e (n+1) kt v)=some ():=by
  unfold Instr.checkKey
  rw[bb,dD h,Option.bind_some]
  cases d <;> first | exact hd.elim | rfl
theorem Hz {P:Program} {kt:TypeId} (k:IntKind) (h:P.underlying kt=some (.int k)):FG P kt (Value.int k) where
  ty:=⟨_,h,fun a b=>by simp[Instr.sameNow],fun a e=>K3 h trivial e 9999 _⟩
  bits:=fun a b hab=>by
    have:a=b:=by simpa using hab
    subst this
    simp[Instr.sameBits]
theorem AK {κ:Type} [BEq κ] {key:κ→Value} (k:κ):∀ m:kn κ,match sH k m with
    | some i=>∃ x,m[i]?=some x∧(k == x.1)=true∧getM m k=some x.2.1∧(fN key m)[i]?=some (.val (key x.1),x.2.1,x.2.2)∧∀ v c,(fN key m).set i (.val (key k),v,x.2.2)=fN key (jv k v c m)∧(jv k v c m).length=m.length
    | none=>getM m k=none∧∀ v c,fN key m ++ [(.val (key k),v,c)]=fN key (jv k v c m)∧(jv k v c m).length=m.length+1
  | []=>⟨rfl,fun v c=>⟨rfl,rfl⟩⟩
  | x :: r=>by
    have ih:=AK (key:=key) k r
    simp only[sH]
    cases hk:k == x.1 with
    | true=>exact ⟨x,rfl,hk,by simp[getM,hk],rfl,fun v c=>by simp[jv,hk,fN]⟩
    | false =>
      simp only[Bool.false_eq_true,if_false]
      cases hi:sH k r with
      | some i =>
        rw[hi] at ih
        obtain ⟨y,h1,h2,h3,h4,h5⟩:=ih
        refine ⟨y,by simpa using h1,h2,by simpa [getM,hk] using h3,by simpa [fN] using h4,fun v c=>?_⟩
        obtain ⟨g1,g2⟩:=h5 v c
        exact ⟨by simp only[fN] at g1 ⊢; simp[jv,hk,g1],by simp[jv,hk,g2]⟩
      | none =>
        rw[hi] at ih
        refine ⟨by simpa [getM,hk] using ih.1,fun v c=>?_⟩
        obtain ⟨g1,g2⟩:=ih.2 v c
        exact ⟨by simp only[fN] at g1 ⊢; simp[jv,hk,g1],by simp[jv,hk,g2]⟩
section
variable {P:Program} {T:Env} {H:View} {κ:Type} [BEq κ] {key:κ→Value} {kt et t ty:TypeId}
theorem RN {K:V→View→Prop} {w:cI (T,H,K)} {x i:Operand} {z:V} {id c:Nat} {m:kn κ} {k:κ} (hm:gh P t=some (kt,et)) (hz:zeroV P et=some z) (hk:FG P kt key)
    (hx:ev T x=.mp id) (hi:ev T i=.val (key k)) (hH:H id=.map (fN key m) c) (h:K ((getM m k).getD z) H):pz P (.lookup t x i false) ty T H K w:=by
  intro n _
  have hf:=EN hk k (fN key m).isEmpty m
  have hg:=AK (key:=key) k m
  refine ⟨(getM m k).getD z,.none,[id],?_,h⟩
  simp only[sI,bT,oper,fU,hm,hz,hx,hi,hH,hf]
  cases hj:sH k m with
  | some j =>
    rw[hj] at hg
    obtain ⟨y,h1,h2,h3,h4,_⟩:=hg
    simp[h4,h3]
  | none =>
    rw[hj] at hg
    simp[hg.1]
theorem N3 (hk:FG P kt key) (k k':κ) (h:(k == k')=true):sameKey (.val (key k')) (.val (key k))=true:=by
  simp only[sameKey,cx]; exact hk.bits _ _ h
theorem M6 {K:V→View→Prop} {w:cI (T,H,K)} {x i y:Operand} {id c:Nat} {m:kn κ} {k:κ} {v:V} (hm:gh P t=some (kt,et)) (hk:FG P kt key)
    (hx:ev T x=.mp id) (hi:ev T i=.val (key k)) (hy:ev T y=v) (hH:H id=.map (fN key m) c)
    (h:∀ c',K .any (H.set id (.map (fN key (jv k v c m)) c'))):pz P (.mapUpdate t x i y) ty T H K w:=by
  intro n _
  have hf:=EN hk k false m
  have hg:=AK (key:=key) k m
  cases hj:sH k m with
  | some j =>
    rw[hj] at hg hf
    obtain ⟨z,h1,h2,h3,h4,h5⟩:=hg
    refine ⟨.any,.fZ id (.map ((fN key m).set j (.val (key k),v,z.2.2)) c),[id],?_,?_⟩
    · simp only[sI,bT,oper,fG,hm,hx,hi,hy,hH,hf,h4,N3 hk k z.1 h2,if_true]
    · rw[(h5 v c).1]; exact h c
  | none =>
    rw[hj] at hg hf
    refine ⟨.any,.fZ id (.map (fN key m ++ [(.val (key k),v,c)]) (c+1)),[id],?_,?_⟩
    · simp only[sI,bT,oper,fG,hm,hx,hi,hy,hH,hf]
    · rw[(hg.2 v c).1]; exact h (c+1)
omit [BEq κ] in
theorem Rl {K:V→View→Prop} {w:cI (T,H,K)} {x:Operand} {id c:Nat} {m:kn κ} (hm:gh P t=some (kt,et)) (hx:ev T x=.mp id) (hH:H id=.map (fN key m) c) (h:K (aj m.length) H) :
    pz P (.call { callee:=.builtin .len,args:=#[x],argTypes:=#[t] }) ty T H K w:=by
  intro n _
  have hu:∃ a b,P.underlying t=some (.map a b):=by
    unfold gh at hm
    split at hm
    · rename_i a b h1; exact ⟨a,b,h1⟩
    · simp at hm
  obtain ⟨a,b,hu⟩:=hu
  refine ⟨aj m.length,.none,[id],?_,h⟩
  have hl:(fN key m).length=m.length:=by simp[fN]
  simp only[sI,bT,oper,List.size_toArray,List.length_cons,List.length_nil,uR,hx,hH,hl]
  simp[hu]
end
theorem N5 {κ:Type} [BEq κ] [LawfulBEq κ] (k k':κ) (v:V) (c:Nat):∀ m:kn κ,getM (jv k v c m) k'=if k' == k then some v else getM m k'
  | []=>by
    by_cases h:k'=k
    · subst h; simp[jv,getM]
    · simp[jv,getM,h]
  | x :: r=>by
    have ih:=N5 k k' v c r
    simp only[jv]
    by_cases hk:k=x.1
    · by_cases h:k'=k
      · subst h; simp[hk,getM]
      · have:¬ k'=x.1:=fun e=>h (e.trans hk.symm)
        simp[hk,getM,this]
    · simp only[beq_iff_eq,hk,if_false]
      by_cases h:k'=x.1
      · have:¬ k'=k:=fun e=>hk (e.symm.trans h)
        simp[getM,h]
        subst h
        simp[this]
      · simp only[getM,List.find?_cons,beq_eq_false_iff_ne.2 h] at ih ⊢
        exact ih
def ew {κ β:Type} [BEq κ] (a:List (κ × β)) (k:κ):Option β:=(a.find? fun x=>k == x.1).map (·.2)
def ll {κ β:Type} [BEq κ] (k:κ) (v:β):List (κ × β)→List (κ × β)
  | []=>[(k,v)]
  | x :: r=>if k == x.1 then (k,v) :: r else x :: ll k v r
def oW {κ β:Type} (encV:β→V):List (κ × β)→kn κ→Prop
  | [],[]=>True
  | x :: a,y :: m=>y.1=x.1∧y.2.1=encV x.2∧oW encV a m
  | _,_=>False
theorem oW.get {κ β:Type} [BEq κ] {encV:β→V} (k:κ):∀ {a:List (κ × β)} {m:kn κ},oW encV a m→getM m k=(ew a k).map encV
  | [],[],_=>rfl
  | x :: a,y :: m,⟨h1,h2,h3⟩=>by
    have ih:=oW.get k h3
    simp only[getM,ew,List.find?_cons,h1] at ih ⊢
    cases k == x.1 with
    | true=>simp[h2]
    | false=>simpa using ih
theorem oW.put {κ β:Type} [BEq κ] {encV:β→V} (k:κ) (v:β) (c:Nat):∀ {a:List (κ × β)} {m:kn κ},oW encV a m→oW encV (ll k v a) (jv k (encV v) c m)
  | [],[],_=>⟨rfl,rfl,trivial⟩
  | x :: a,y :: m,⟨h1,h2,h3⟩=>by
    have ih:=oW.put k v c h3
    simp only[ll,jv,h1]
    cases k == x.1 with
    | true=>exact ⟨rfl,rfl,h3⟩
    | false=>exact ⟨h1,h2,ih⟩
theorem oW.len {κ β:Type} {encV:β→V} : ∀ {a:List (κ × β)} {m:kn κ},oW encV a m→m.length=a.length
  | [],[],_=>rfl
  | x :: a,y :: m,⟨_,_,h3⟩=>by simp[oW.len h3]
theorem FM {κ β:Type} [BEq κ] [LawfulBEq κ] (k k':κ) (v:β):∀ a:List (κ × β),ew (ll k v a) k'=if k' == k then some v else ew a k'
  | []=>by
    by_cases h:k'=k
    · subst h; simp[ll,ew]
    · simp[ll,ew,h]
  | x :: r=>by
    have ih:=FM k k' v r
    simp only[ll]
    by_cases hk:k=x.1
    · by_cases h:k'=k
      · subst h; simp[hk,ew]
      · have:¬ k'=x.1:=fun e=>h (e.trans hk.symm)
        simp[hk,ew,this]
    · simp only[beq_iff_eq,hk,if_false]
      by_cases h:k'=x.1
      · have:¬ k'=k:=fun e=>hk (e.symm.trans h)
        simp[ew,h]
        subst h
        simp[this]
      · simp only[ew,List.find?_cons,beq_eq_false_iff_ne.2 h] at ih ⊢
        exact ih
def Ez (n k:Nat) (J:Nat→Env→View→Prop) (T:Env) (H:View):Prop:=∃ i,i+k=n∧J i T H
theorem ba.up {P:Program} {T:Env} {H:View} {c:SC} {Q:Exit→Env→View→Prop} {v:cI (T,H,Q)} (n:Nat) (J:Nat→Env→View→Prop) (h0:J 0 T H)
    (hs:∀ i k T H,i+k=n→J i T H→wS P c T H fun e T' H'=>y0 e (∃ k',k' < k∧Ez n k' J T' H') (Q e T' H')):ba P c T H Q v :=
  ba.intro (fun k T H=>Ez n k J T H) n ⟨0,by omega,h0⟩ fun k T H ⟨i,hk,hj⟩=>hs i k T H hk hj
theorem aV {n i k:Nat} {J:Nat→Env→View→Prop} {T:Env} {H:View} (hk:i+k=n) (hlt:i < n) (hJ:J (i+1) T H):∃ k',k' < k∧Ez n k' J T H:=⟨k - 1,by omega,i+1,by omega,hJ⟩
end Gv
