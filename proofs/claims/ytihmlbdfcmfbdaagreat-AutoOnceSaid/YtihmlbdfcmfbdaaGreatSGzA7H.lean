/-
  Part 8 of the proof: what the machine does and what the functions answer.
  Conditions: those that each lemma names.
-/
import Derived.Test.YtihmlbdfcmfbdaaGreatSGzA7G
set_option linter.unusedSimpArgs false
set_option linter.unusedVariables false
set_option maxRecDepth 100000
namespace Gv
open Go Go.Proofs
def nZ:DF:=⟨.seq (al [((some 2),.op (.alloc [(.emp 1),(.emp 1),(.emp 1),(.val (.int .i64 0))])),((some 3),.op (.bg (.val (.val (.complex .f64 0 0))))),aD 4 0]) <|
  .seq (al [aa 9 0,aF 10 94 [9],aa 8 10,cM 11 0 8,cM 12 1 8,cM 13 2 8,((some 5),.op (.alloc [(.emp 1),(.emp 1)])),(none,.op (.store 2 (.tmp 5) (.tmp 11))),aa 6 12,aa 7 13]) <|
  .seq (.seq (al [aa 14 7,ay 15 .neq 14 0]) <|
  .cond (.tmp 15) (.seq (al [((some 16),.op (.build [(.emp 1),(.emp 1),(.emp 1),(.val (.int .i64 0))] [])),aa 17 6,aa 18 7,(none,.op (.store 4 (.tmp 2) (.tmp 16))),aa 3 17,aa 4 18]) <|
  .ret) (.skip)) <|
  .seq (al [aJ 19 2 5,aF 20 95 [19],cM 21 0 20,cM 22 1 20,cM 23 2 20,(none,.op (.store 4 (.tmp 2) (.tmp 21))),aa 3 22,aa 4 23]) <|
  .ret,
  [.cell 2 (some 4),.tmp 3,.tmp 4],24⟩
theorem sC:aS Tryz.prog 49 []=some nZ:=by kernel_rfl
def mP:DF:=⟨.seq (al [((some 2),.op (.alloc [(.emp 1),(.emp 1)])),((some 3),.op (.bg (.val (.val (.complex .f64 0 0))))),aD 4 0]) <|
  .seq (al [aa 9 0,aF 10 134 [9],aa 8 10,cM 11 0 8,cM 12 1 8,cM 13 2 8,aa 5 11,aa 6 12,aa 7 13]) <|
  .seq (.seq (al [aa 14 7,ay 15 .neq 14 0]) <|
  .cond (.tmp 15) (.seq (al [((some 16),.op (.build [(.emp 1),(.emp 1)] [])),aa 17 6,aa 18 7,(none,.op (.store 2 (.tmp 2) (.tmp 16))),aa 3 17,aa 4 18]) <|
  .ret) (.skip)) <|
  .seq (al [aa 19 5,aa 20 6,aF 21 135 [19,20],cM 22 0 21,cM 23 1 21,cM 24 2 21,(none,.op (.store 2 (.tmp 2) (.tmp 22))),aa 3 23,aa 4 24]) <|
  .ret,
  [.cell 2 (some 2),.tmp 3,.tmp 4],25⟩
theorem rR:aS Tryz.prog 94 []=some mP:=by kernel_rfl
def rP:DC :=
  .seq (.seq (.region [] [⟨none,[aa 16 6,aa 17 0,aI 18 17,aK 19 .lss 16 18,aa 20 19]⟩,⟨(some (20,true)),[aa 21 7,ay 22 .lss 21 2]⟩,⟨none,[bG 23 20 22]⟩]) <|
  .cond (.tmp 23) (.skip) (.exit 0)) <|
  .block 1 (.seq (al [aa 25 0,aa 26 6,aF 27 177 [25,26],aa 24 27,cM 28 0 24,cM 29 1 24,aa 8 28,aa 9 29]) <|
  .seq (.seq (al [aa 30 8,ay 31 .lss 30 0]) <|
  .cond (.tmp 31) (.seq (al [aa 32 0,aa 33 6,aF 34 178 [32,33],((some 2),.op (.bg (.val (.emp 1)))),aa 3 34,aD 4 4]) <|
  .ret) (.skip)) <|
  .seq (.seq (al [aa 35 9]) <|
  .cond (.tmp 35) (.seq (al [aa 36 8,aa 6 36]) <|
  .exit 1) (.skip)) <|
  .seq (.region [] [⟨none,[aa 38 0,aa 39 6,aF 40 179 [38,39],aa 37 40,cM 41 0 37,cM 42 1 37,cM 43 2 37,((some 10),.op (.alloc [(.val (.int .i64 0)),(.val (.string ⟨#[]⟩)),(.val (.complex .f64 0 0))])),(none,.op (.store 3 (.tmp 10) (.tmp 41))),aa 11 42,aa 12 43]⟩]) <|
  .seq (.seq (al [aa 44 12,ay 45 .neq 44 0]) <|
  .cond (.tmp 45) (.seq (al [aq 46 2 10,ao 47 46,aa 48 12,((some 2),.op (.bg (.val (.emp 1)))),aa 3 47,aa 4 48]) <|
  .ret) (.skip)) <|
  .seq (.seq (al [aq 49 0 10,ao 50 49,ay 51 .eql 50 9]) <|
  .cond (.tmp 51) (al [aa 52 7,ay 53 .add 52 1,aa 7 53]) (.skip)) <|
  .region [] [⟨none,[aa 54 5,aJ 55 3 10,((some 56),.op (.bD 1 3 [(.val (.int .i64 0)),(.val (.string ⟨#[]⟩)),(.val (.complex .f64 0 0))] [(0,(.tmp 55))])),((some 57),.op (.app 3 40 (.tmp 54) (.tmp 56))),aa 58 11,aa 5 57,aa 6 58]⟩])
def me:DF:=⟨.seq (al [((some 2),.op (.bg (.val (.emp 1)))),((some 3),.op (.bg (.val (.val (.complex .f64 0 0))))),aD 4 0]) <|
  .seq (.seq (al [aa 13 0,aI 14 13,ay 15 .gtr 14 4000]) <|
  .cond (.tmp 15) (.seq (al [((some 2),.op (.bg (.val (.emp 1)))),((some 3),.op (.bg (.val (.val (.complex .f64 0 0))))),aD 4 5]) <|
  .ret) (.skip)) <|
  .seq (al [((some 5),.op (.bg (.val (.emp 1))))]) <|
  .seq (al [aD 6 0,aD 7 0]) <|
  .seq (.block 0 (.loop rP)) <|
  .seq (al [aa 59 5,aa 60 0,aa 61 0,aI 62 61,aF 63 178 [60,62],aa 2 59,aa 3 63,aD 4 0]) <|
  .ret,
  [.tmp 2,.tmp 3,.tmp 4],64⟩
theorem qt:aS Tryz.prog 134 []=some me:=by kernel_rfl
def oz:DF:=⟨.seq (al [aD 4 0,aQ 5 false]) <|
  .seq (.block 0 (.seq (.region [] [⟨none,[aa 7 0,aa 8 1,aL 9 1 7 8,ao 10 9,((some 11),.op (.arith .eql (.tmp 10) (.val (.val (.int .u8 32))))),aa 12 11]⟩,⟨(some (12,false)),[aa 13 0,aa 14 1,aL 15 1 13 14,ao 16 15,((some 17),.op (.arith .eql (.tmp 16) (.val (.val (.int .u8 9)))))]⟩,⟨none,[bF 18 12 17,aa 19 18]⟩,⟨(some (19,false)),[aa 20 0,aa 21 1,aL 22 1 20 21,ao 23 22,((some 24),.op (.arith .eql (.tmp 23) (.val (.val (.int .u8 10)))))]⟩,⟨none,[bF 25 19 24,aa 26 25]⟩,⟨(some (26,false)),[aa 27 0,aa 28 1,aL 29 1 27 28,ao 30 29,((some 31),.op (.arith .eql (.tmp 30) (.val (.val (.int .u8 13)))))]⟩,⟨none,[bF 32 26 31,aa 6 32]⟩]) <|
  .cond (.tmp 6) (.seq (al [aa 33 1,ay 34 .add 33 1,aa 4 34,aQ 5 true]) <|
  .ret) (.seq (.region [] [⟨none,[aa 36 0,aa 37 1,cU 38 212 [(.tmp 36),(.tmp 37),(.val (.val (.string ⟨#[47,42]⟩)))],aa 35 38]⟩]) <|
  .cond (.tmp 35) (.seq (.region [] [⟨none,[aa 39 0,aa 40 1,ay 41 .add 40 2,cU 42 213 [(.tmp 39),(.tmp 41),(.val (.val (.string ⟨#[42,47]⟩)))],aa 4 42,aQ 5 true]⟩]) <|
  .ret) (.seq (.region [] [⟨none,[aa 44 0,aa 45 1,cU 46 212 [(.tmp 44),(.tmp 45),(.val (.val (.string ⟨#[47,47]⟩)))],aa 43 46]⟩]) <|
  .cond (.tmp 43) (.seq (al [aa 47 0,aa 48 1,aF 49 214 [47,48],aa 4 49,aQ 5 true]) <|
  .ret) (.seq (.region [] [⟨none,[aa 51 0,aa 52 1,cU 53 212 [(.tmp 51),(.tmp 52),(.val (.val (.string ⟨#[37,123]⟩)))],aa 50 53]⟩]) <|
  .cond (.tmp 50) (.seq (.region [] [⟨none,[aa 54 0,aa 55 1,ay 56 .add 55 2,cU 57 213 [(.tmp 54),(.tmp 56),(.val (.val (.string ⟨#[37,125]⟩)))],aa 4 57,aQ 5 true]⟩]) <|
  .ret) (.seq (al [aa 59 0,aa 60 1,aL 61 1 59 60,ao 62 61,((some 63),.op (.arith .eql (.tmp 62) (.val (.val (.int .u8 60))))),aa 58 63]) <|
  .cond (.tmp 58) (.seq (.region [] [⟨none,[aa 64 0,aa 65 0,aa 66 1,aF 67 214 [65,66],((some 68),.op (.slice 1 (.tmp 64) none (some (.tmp 67)))),aa 69 1,ay 70 .add 69 1,cU 71 213 [(.tmp 68),(.tmp 70),(.val (.val (.string ⟨#[62]⟩)))],aa 4 71,aQ 5 true]⟩]) <|
  .ret) (.seq (al [aa 73 0,aa 74 1,aL 75 1 73 74,ao 76 75,((some 77),.op (.arith .eql (.tmp 76) (.val (.val (.int .u8 123))))),aa 72 77]) <|
  .cond (.tmp 72) (.seq (al [aa 78 0,aa 79 1,aF 80 215 [78,79],aa 4 80,aQ 5 true]) <|
  .ret) (.skip)))))))) <|
  .seq (al [aa 81 1,aa 4 81,aQ 5 false]) <|
  .ret,
  [.tmp 4,.tmp 5],82⟩
theorem sy:aS Tryz.prog 177 []=some oz:=by kernel_rfl
def oR:DF:=⟨.seq (al [aQ 6 false]) <|
  .seq (.region [] [⟨none,[aa 7 1,aa 8 2,((some 9),.op (.gL (.tmp 8))),aK 10 .add 7 9,aa 11 0,aI 12 11,aK 13 .leq 10 12,aa 14 13]⟩,⟨(some (14,true)),[aa 15 0,aa 16 1,aa 17 1,aa 18 2,((some 19),.op (.gL (.tmp 18))),aK 20 .add 17 19,((some 21),.op (.slice 1 (.tmp 15) (some (.tmp 16)) (some (.tmp 20)))),((some 22),.op (.old (.convert 91 9 (.tmp 21)) 9)),aa 23 2,((some 24),.op (.iE .eql (.tmp 22) (.tmp 23)))]⟩,⟨none,[bG 25 14 24,aa 6 25]⟩]) <|
  .ret,
  [.tmp 6],26⟩
theorem tn:aS Tryz.prog 212 []=some oR:=by kernel_rfl
def s6:DC :=
  .seq (.seq (al [aa 7 1,aa 8 0,aI 9 8,aK 10 .lss 7 9]) <|
  .cond (.tmp 10) (.skip) (.exit 0)) <|
  .block 1 (.seq (.seq (al [aa 11 0,aa 12 1,aa 13 2,aF 14 212 [11,12,13]]) <|
  .cond (.tmp 14) (.seq (al [aa 15 1,aa 16 2,((some 17),.op (.gL (.tmp 16))),aK 18 .add 15 17,aa 6 18]) <|
  .ret) (.skip)) <|
  al [aa 19 1,ay 20 .add 19 1,aa 1 20])
def oq:DF:=⟨.seq (al [aD 6 0]) <|
  .seq (.block 0 (.loop s6)) <|
  .seq (al [aD 6 (-1)]) <|
  .ret,
  [.tmp 6],21⟩
theorem sr:aS Tryz.prog 213 []=some oq:=by kernel_rfl
def tU:DC :=
  .seq (.seq (.region [] [⟨none,[aa 5 1,aa 6 0,aI 7 6,aK 8 .lss 5 7,aa 9 8]⟩,⟨(some (9,true)),[aa 10 0,aa 11 1,aL 12 1 10 11,ao 13 12,((some 14),.op (.arith .neq (.tmp 13) (.val (.val (.int .u8 10)))))]⟩,⟨none,[bG 15 9 14]⟩]) <|
  .cond (.tmp 15) (.skip) (.exit 0)) <|
  .block 1 (al [aa 16 1,ay 17 .add 16 1,aa 1 17])
def nX:DF:=⟨.seq (al [aD 4 0]) <|
  .seq (.block 0 (.loop tU)) <|
  .seq (al [aa 18 1,aa 4 18]) <|
  .ret,
  [.tmp 4],19⟩
theorem rX:aS Tryz.prog 214 []=some nX:=by kernel_rfl
def rM:DC :=
  .seq (.seq (.region [] [⟨none,[aa 6 1,ay 7 .geq 6 0,aa 8 7]⟩,⟨(some (8,true)),[aa 9 1,aa 10 0,aI 11 10,aK 12 .lss 9 11]⟩,⟨none,[bG 13 8 12]⟩]) <|
  .cond (.tmp 13) (.skip) (.exit 0)) <|
  .block 1 (.seq (.seq (al [aa 14 0,aa 15 1,aL 16 1 14 15,ao 17 16]) <|
  .block 2 (.seq (al [((some 21),.op (.arith .eql (.tmp 17) (.val (.val (.int .u8 123))))),aa 20 21]) <|
  .cond (.tmp 20) (.seq (al [aa 22 5,ay 23 .add 22 1,aa 5 23]) <|
  al [aa 24 1,ay 25 .add 24 1,aa 1 25]) (.seq (al [((some 27),.op (.arith .eql (.tmp 17) (.val (.val (.int .u8 125))))),aa 26 27]) <|
  .cond (.tmp 26) (.seq (al [aa 28 5,ay 29 .sub 28 1,aa 5 29]) <|
  al [aa 30 1,ay 31 .add 30 1,aa 1 31]) (.seq (.seq (al [((some 33),.op (.arith .eql (.tmp 17) (.val (.val (.int .u8 39))))),aa 32 33]) <|
  .cond (.tmp 32) (.skip) (al [((some 34),.op (.arith .eql (.tmp 17) (.val (.val (.int .u8 34))))),aa 32 34])) <|
  .cond (.tmp 32) (al [aa 35 0,aa 36 1,aF 37 232 [35,36],aa 1 37]) (al [aa 18 1,ay 19 .add 18 1,aa 1 19]))))) <|
  .seq (.region [] [⟨none,[aa 38 5,ay 39 .eql 38 0,aa 40 39]⟩,⟨(some (40,true)),[aa 41 1,ay 42 .geq 41 0]⟩,⟨none,[bG 43 40 42]⟩]) <|
  .cond (.tmp 43) (.seq (al [aa 44 1,aa 4 44]) <|
  .ret) (.skip))
def mc:DF:=⟨.seq (al [aD 4 0]) <|
  .seq (al [aD 5 0]) <|
  .seq (.block 0 (.loop rM)) <|
  .seq (al [aD 4 (-1)]) <|
  .ret,
  [.tmp 4],45⟩
theorem qv:aS Tryz.prog 215 []=some mc:=by kernel_rfl
def ri:DC :=
  .seq (.seq (al [aa 12 1,aa 13 0,aI 14 13,aK 15 .lss 12 14]) <|
  .cond (.tmp 15) (.skip) (.exit 0)) <|
  .block 1 (.seq (.seq (al [aa 16 0,aa 17 1,aL 18 1 16 17,ao 19 18,aa 20 5,aK 21 .eql 19 20]) <|
  .cond (.tmp 21) (.seq (al [aa 22 1,ay 23 .add 22 1,aa 4 23]) <|
  .ret) (.skip)) <|
  .seq (.seq (al [aa 24 0,aa 25 1,aL 26 1 24 25,ao 27 26,((some 28),.op (.arith .eql (.tmp 27) (.val (.val (.int .u8 92)))))]) <|
  .cond (.tmp 28) (al [aa 29 1,ay 30 .add 29 1,aa 1 30]) (.skip)) <|
  al [aa 31 1,ay 32 .add 31 1,aa 1 32])
def lG:DF:=⟨.seq (al [aD 4 0]) <|
  .seq (al [aa 6 0,aa 7 1,aL 8 1 6 7,ao 9 8,aa 5 9]) <|
  .seq (al [aa 10 1,ay 11 .add 10 1,aa 1 11]) <|
  .seq (.block 0 (.loop ri)) <|
  .seq (al [aD 4 (-1)]) <|
  .ret,
  [.tmp 4],33⟩
theorem qw:aS Tryz.prog 232 []=some lG:=by kernel_rfl
def vV:DC :=
  .seq (.seq (al [aa 16 7,aa 17 1,aK 18 .lss 16 17]) <|
  .cond (.tmp 18) (.skip) (.exit 0)) <|
  .seq (.block 1 (.seq (al [aa 21 6,ay 22 .add 21 1,aa 6 22]) <|
  .seq (al [aa 23 0,aa 24 7,aL 25 1 23 24,ao 26 25,((some 27),.op (.arith .eql (.tmp 26) (.val (.val (.int .u8 10)))))]) <|
  .cond (.tmp 27) (al [aa 28 5,ay 29 .add 28 1,aa 5 29,aD 6 1]) (.skip))) <|
  al [aa 19 7,ay 20 .add 19 1,aa 7 20]
def qc:DF:=⟨.seq (al [((some 4),.op (.bg (.val (.val (.complex .f64 0 0)))))]) <|
  .seq (.seq (.region [] [⟨none,[aa 8 1,ay 9 .lss 8 0,aa 10 9]⟩,⟨(some (10,false)),[aa 11 1,aa 12 0,aI 13 12,aK 14 .gtr 11 13]⟩,⟨none,[bF 15 10 14]⟩]) <|
  .cond (.tmp 15) (.seq (al [((some 4),.op (.bg (.val (.val (.complex .f64 0 0)))))]) <|
  .ret) (.skip)) <|
  .seq (al [aD 5 1,aD 6 1]) <|
  .seq (.seq (al [aD 7 0]) <|
  .block 0 (.loop vV)) <|
  .seq (al [aa 30 5,aa 31 6,aF 32 216 [30,31],aa 4 32]) <|
  .ret,
  [.tmp 4],33⟩
theorem uO:aS Tryz.prog 178 []=some qc:=by kernel_rfl
def pK:DF:=⟨.seq (al [((some 4),.op (.bg (.val (.val (.complex .f64 0 0)))))]) <|
  .seq (.seq (.region [] [⟨none,[aa 5 0,ay 6 .lss 5 1,aa 7 6]⟩,⟨(some (7,false)),[aa 8 0,ay 9 .gtr 8 1073741824]⟩,⟨none,[bF 10 7 9,aa 11 10]⟩,⟨(some (11,false)),[aa 12 1,ay 13 .lss 12 1]⟩,⟨none,[bF 14 11 13,aa 15 14]⟩,⟨(some (15,false)),[aa 16 1,ay 17 .gtr 16 1073741824]⟩,⟨none,[bF 18 15 17]⟩]) <|
  .cond (.tmp 18) (.seq (al [((some 4),.op (.bg (.val (.val (.complex .f64 0 0)))))]) <|
  .ret) (.skip)) <|
  .seq (al [aa 19 0,((some 20),.op (.old (.convert 3 275 (.tmp 19)) 275)),aa 21 1,((some 22),.op (.old (.convert 3 275 (.tmp 21)) 275)),((some 23),.op (.old (.call { callee:=.builtin .complex,args:=#[(.tmp 20),(.tmp 22)],argTypes:=#[275,275] }) 88)),aa 4 23]) <|
  .ret,
  [.tmp 4],24⟩
theorem uM:aS Tryz.prog 216 []=some pK:=by kernel_rfl
def uV:DC :=
  .seq (.seq (.region [] [⟨none,[aa 27 9,aa 28 0,aI 29 28,aK 30 .lss 27 29,aa 31 30]⟩,⟨(some (31,true)),[aa 32 0,aa 33 9,aL 34 1 32 33,ao 35 34,aF 36 194 [35]]⟩,⟨none,[bG 37 31 36]⟩]) <|
  .cond (.tmp 37) (.skip) (.exit 1)) <|
  .block 2 (al [aa 38 9,ay 39 .add 38 1,aa 9 39])
def uU:DC :=
  .seq (.seq (al [aa 58 10,ay 59 .leq 58 4]) <|
  .cond (.tmp 59) (.skip) (.exit 3)) <|
  .seq (.block 4 (.seq (.region [] [⟨none,[aa 62 1,aa 63 10,aK 64 .add 62 63,aa 65 0,aI 66 65,aK 67 .leq 64 66,aa 68 67]⟩,⟨(some (68,true)),[aa 69 0,aa 70 1,aa 71 1,aa 72 10,aK 73 .add 71 72,((some 74),.op (.slice 1 (.tmp 69) (some (.tmp 70)) (some (.tmp 73)))),((some 75),.op (.old (.convert 91 9 (.tmp 74)) 9)),aF 76 192 [75]]⟩,⟨none,[bG 77 68 76]⟩]) <|
  .cond (.tmp 77) (.seq (.region [(6,8)] [⟨none,[aa 78 0,aa 79 1,aa 80 1,aa 81 10,aK 82 .add 80 81,((some 83),.op (.slice 1 (.tmp 78) (some (.tmp 79)) (some (.tmp 82)))),((some 84),.op (.old (.convert 91 9 (.tmp 83)) 9)),aq 85 0 7,(none,.op (.store 1 (.tmp 85) (.val (.val (.int .i64 2))))),aq 86 1 7,(none,.op (.store 1 (.tmp 86) (.tmp 84)))]⟩]) <|
  .seq (al [aJ 87 3 7,aa 88 1,aa 89 10,aK 90 .add 88 89,(none,.op (.store 3 (.tmp 4) (.tmp 87))),aa 5 90,aD 6 0]) <|
  .ret) (.skip))) <|
  al [aa 60 10,ay 61 .add 60 1,aa 10 61]
def uQ:DC :=
  .seq (.seq (.region [] [⟨none,[aa 108 9,aa 109 0,aI 110 109,aK 111 .lss 108 110,aa 112 111]⟩,⟨(some (112,true)),[aa 113 0,aa 114 9,aL 115 1 113 114,ao 116 115,((some 117),.op (.arith .geq (.tmp 116) (.val (.val (.int .u8 97)))))]⟩,⟨none,[bG 118 112 117,aa 119 118]⟩,⟨(some (119,true)),[aa 120 0,aa 121 9,aL 122 1 120 121,ao 123 122,((some 124),.op (.arith .leq (.tmp 123) (.val (.val (.int .u8 122)))))]⟩,⟨none,[bG 125 119 124]⟩]) <|
  .cond (.tmp 125) (.skip) (.exit 5)) <|
  .block 6 (al [aa 126 9,ay 127 .add 126 1,aa 9 127])
def oW:DF:=⟨.seq (.region [] [⟨none,[((some 4),.op (.alloc [(.val (.int .i64 0)),(.val (.string ⟨#[]⟩)),(.val (.complex .f64 0 0))])),aD 5 0,aD 6 0]⟩]) <|
  .seq (.region [] [⟨none,[aa 11 0,aa 12 1,aF 13 178 [11,12],((some 14),.op (.build [(.val (.int .i64 0)),(.val (.string ⟨#[]⟩)),(.val (.complex .f64 0 0))] [(2,1,(.tmp 13))])),((some 7),.op (.alloc [(.val (.int .i64 0)),(.val (.string ⟨#[]⟩)),(.val (.complex .f64 0 0))])),(none,.op (.store 3 (.tmp 7) (.tmp 14)))]⟩]) <|
  .seq (al [aa 15 0,aa 16 1,aL 17 1 15 16,ao 18 17,aa 8 18]) <|
  .seq (al [aa 19 1,ay 20 .add 19 1,aa 9 20]) <|
  .seq (.block 0 (.seq (al [aa 25 8,aF 26 193 [25],aa 24 26]) <|
  .cond (.tmp 24) (.seq (.block 1 (.loop uV)) <|
  .seq (.seq (al [aa 40 9,aa 41 1,aK 42 .sub 40 41,ay 43 .gtr 42 20]) <|
  .cond (.tmp 43) (.seq (al [aJ 44 3 7,aa 45 9,(none,.op (.store 3 (.tmp 4) (.tmp 44))),aa 5 45,aD 6 5]) <|
  .ret) (.skip)) <|
  .seq (.region [(4,6)] [⟨none,[aa 46 0,aa 47 1,aa 48 9,((some 49),.op (.slice 1 (.tmp 46) (some (.tmp 47)) (some (.tmp 48)))),((some 50),.op (.old (.convert 91 9 (.tmp 49)) 9)),aq 51 0 7,(none,.op (.store 1 (.tmp 51) (.val (.val (.int .i64 1))))),aq 52 1 7,(none,.op (.store 1 (.tmp 52) (.tmp 50)))]⟩]) <|
  .seq (al [aJ 53 3 7,aa 54 9,(none,.op (.store 3 (.tmp 4) (.tmp 53))),aa 5 54,aD 6 0]) <|
  .ret) (.seq (al [aa 56 8,((some 57),.op (.arith .eql (.tmp 56) (.val (.val (.int .u8 39))))),aa 55 57]) <|
  .cond (.tmp 55) (.seq (.seq (al [aD 10 3]) <|
  .block 3 (.loop uU)) <|
  .seq (.region [(0,5)] [⟨none,[aJ 91 3 7,aa 92 9,aa 93 0,aa 94 1,((some 95),.op (.slice 1 (.tmp 93) (some (.tmp 94)) none)),aF 96 217 [95],(none,.op (.store 3 (.tmp 4) (.tmp 91))),aa 5 92,aa 6 96]⟩]) <|
  .ret) (.seq (.region [] [⟨none,[aa 98 0,aa 99 1,cU 100 212 [(.tmp 98),(.tmp 99),(.val (.val (.string ⟨#[37,37]⟩)))],aa 97 100]⟩]) <|
  .cond (.tmp 97) (.seq (al [aq 101 0 7,(none,.op (.store 1 (.tmp 101) (.val (.val (.int .i64 9)))))]) <|
  .seq (al [aJ 102 3 7,aa 103 1,ay 104 .add 103 2,(none,.op (.store 3 (.tmp 4) (.tmp 102))),aa 5 104,aD 6 0]) <|
  .ret) (.seq (al [aa 106 8,((some 107),.op (.arith .eql (.tmp 106) (.val (.val (.int .u8 37))))),aa 105 107]) <|
  .cond (.tmp 105) (.seq (.block 5 (.loop uQ)) <|
  al [aa 128 0,aa 129 1,ay 130 .add 129 1,aa 131 9,((some 132),.op (.slice 1 (.tmp 128) (some (.tmp 130)) (some (.tmp 131)))),((some 133),.op (.old (.convert 91 9 (.tmp 132)) 9)),aF 134 218 [133],aq 135 0 7,(none,.op (.store 1 (.tmp 135) (.tmp 134)))]) (al [aa 21 8,aF 22 219 [21],aq 23 0 7,(none,.op (.store 1 (.tmp 23) (.tmp 22)))])))))) <|
  .seq (.seq (al [aq 136 0 7,ao 137 136,ay 138 .eql 137 0]) <|
  .cond (.tmp 138) (.seq (al [aJ 139 3 7,aa 140 9,(none,.op (.store 3 (.tmp 4) (.tmp 139))),aa 5 140,aD 6 3]) <|
  .ret) (.skip)) <|
  .seq (al [aJ 141 3 7,aa 142 9,(none,.op (.store 3 (.tmp 4) (.tmp 141))),aa 5 142,aD 6 0]) <|
  .ret,
  [.cell 4 (some 3),.tmp 5,.tmp 6],143⟩
theorem s9:aS Tryz.prog 179 []=some oW:=by kernel_rfl
def mz:DF:=⟨.seq (al [aQ 2 false]) <|
  .seq (.region [] [⟨none,[aa 3 0,aF 4 193 [3],aa 5 4]⟩,⟨(some (5,false)),[aa 6 0,((some 7),.op (.arith .geq (.tmp 6) (.val (.val (.int .u8 48))))),aa 8 7]⟩,⟨(some (8,true)),[aa 9 0,((some 10),.op (.arith .leq (.tmp 9) (.val (.val (.int .u8 57)))))]⟩,⟨(some (5,false)),[bG 11 8 10]⟩,⟨none,[bF 12 5 11,aa 13 12]⟩,⟨(some (13,false)),[aa 14 0,((some 15),.op (.arith .eql (.tmp 14) (.val (.val (.int .u8 46)))))]⟩,⟨none,[bF 16 13 15,aa 2 16]⟩]) <|
  .ret,
  [.tmp 2],17⟩
theorem rq:aS Tryz.prog 194 []=some mz:=by kernel_rfl
def mD:DF:=⟨.seq (al [aQ 2 false]) <|
  .seq (.region [] [⟨none,[aa 3 0,((some 4),.op (.arith .geq (.tmp 3) (.val (.val (.int .u8 97))))),aa 5 4]⟩,⟨(some (5,true)),[aa 6 0,((some 7),.op (.arith .leq (.tmp 6) (.val (.val (.int .u8 122)))))]⟩,⟨none,[bG 8 5 7,aa 9 8]⟩,⟨(some (9,false)),[aa 10 0,((some 11),.op (.arith .geq (.tmp 10) (.val (.val (.int .u8 65))))),aa 12 11]⟩,⟨(some (12,true)),[aa 13 0,((some 14),.op (.arith .leq (.tmp 13) (.val (.val (.int .u8 90)))))]⟩,⟨(some (9,false)),[bG 15 12 14]⟩,⟨none,[bF 16 9 15,aa 17 16]⟩,⟨(some (17,false)),[aa 18 0,((some 19),.op (.arith .eql (.tmp 18) (.val (.val (.int .u8 95)))))]⟩,⟨none,[bF 20 17 19,aa 2 20]⟩]) <|
  .ret,
  [.tmp 2],21⟩
theorem rn:aS Tryz.prog 193 []=some mD:=by kernel_rfl
def k6:DF:=⟨.seq (al [aQ 2 false]) <|
  .seq (.seq (al [aa 3 0,((some 4),.op (.gL (.tmp 3))),ay 5 .eql 4 3]) <|
  .cond (.tmp 5) (.seq (.region [] [⟨none,[aa 6 0,((some 7),.op (.c8 (.tmp 6) (.val (.val (.int .i64 0))))),((some 8),.op (.arith .eql (.tmp 7) (.val (.val (.int .u8 39))))),aa 9 8]⟩,⟨(some (9,true)),[aa 10 0,((some 11),.op (.c8 (.tmp 10) (.val (.val (.int .i64 2))))),((some 12),.op (.arith .eql (.tmp 11) (.val (.val (.int .u8 39)))))]⟩,⟨none,[bG 13 9 12,aa 14 13]⟩,⟨(some (14,true)),[aa 15 0,((some 16),.op (.c8 (.tmp 15) (.val (.val (.int .i64 1))))),((some 17),.op (.arith .geq (.tmp 16) (.val (.val (.int .u8 32)))))]⟩,⟨none,[bG 18 14 17,aa 19 18]⟩,⟨(some (19,true)),[aa 20 0,((some 21),.op (.c8 (.tmp 20) (.val (.val (.int .i64 1))))),((some 22),.op (.arith .leq (.tmp 21) (.val (.val (.int .u8 126)))))]⟩,⟨none,[bG 23 19 22,aa 24 23]⟩,⟨(some (24,true)),[aa 25 0,((some 26),.op (.c8 (.tmp 25) (.val (.val (.int .i64 1))))),((some 27),.op (.arith .neq (.tmp 26) (.val (.val (.int .u8 39)))))]⟩,⟨none,[bG 28 24 27,aa 29 28]⟩,⟨(some (29,true)),[aa 30 0,((some 31),.op (.c8 (.tmp 30) (.val (.val (.int .i64 1))))),((some 32),.op (.arith .neq (.tmp 31) (.val (.val (.int .u8 92)))))]⟩,⟨none,[bG 33 29 32,aa 2 33]⟩]) <|
  .ret) (.skip)) <|
  .seq (.region [] [⟨none,[aa 34 0,((some 35),.op (.gL (.tmp 34))),ay 36 .eql 35 4,aa 37 36]⟩,⟨(some (37,true)),[aa 38 0,((some 39),.op (.c8 (.tmp 38) (.val (.val (.int .i64 0))))),((some 40),.op (.arith .eql (.tmp 39) (.val (.val (.int .u8 39)))))]⟩,⟨none,[bG 41 37 40,aa 42 41]⟩,⟨(some (42,true)),[aa 43 0,((some 44),.op (.c8 (.tmp 43) (.val (.val (.int .i64 3))))),((some 45),.op (.arith .eql (.tmp 44) (.val (.val (.int .u8 39)))))]⟩,⟨none,[bG 46 42 45,aa 47 46]⟩,⟨(some (47,true)),[aa 48 0,((some 49),.op (.c8 (.tmp 48) (.val (.val (.int .i64 1))))),((some 50),.op (.arith .eql (.tmp 49) (.val (.val (.int .u8 92)))))]⟩,⟨none,[bG 51 47 50,aa 52 51]⟩,⟨(some (52,true)),[aa 53 0,((some 54),.op (.c8 (.tmp 53) (.val (.val (.int .i64 2))))),((some 55),.op (.arith .eql (.tmp 54) (.val (.val (.int .u8 110))))),aa 56 55]⟩,⟨(some (56,false)),[aa 57 0,((some 58),.op (.c8 (.tmp 57) (.val (.val (.int .i64 2))))),((some 59),.op (.arith .eql (.tmp 58) (.val (.val (.int .u8 116)))))]⟩,⟨(some (52,true)),[bF 60 56 59,aa 61 60]⟩,⟨(some (61,false)),[aa 62 0,((some 63),.op (.c8 (.tmp 62) (.val (.val (.int .i64 2))))),((some 64),.op (.arith .eql (.tmp 63) (.val (.val (.int .u8 92)))))]⟩,⟨(some (52,true)),[bF 65 61 64,aa 66 65]⟩,⟨(some (66,false)),[aa 67 0,((some 68),.op (.c8 (.tmp 67) (.val (.val (.int .i64 2))))),((some 69),.op (.arith .eql (.tmp 68) (.val (.val (.int .u8 39)))))]⟩,⟨(some (52,true)),[bF 70 66 69]⟩,⟨none,[bG 71 52 70,aa 2 71]⟩]) <|
  .ret,
  [.tmp 2],72⟩
theorem ql:aS Tryz.prog 192 []=some k6:=by kernel_rfl
def qu:DC :=
  .seq (.seq (al [aa 6 4,aa 7 3,aI 8 7,aK 9 .lss 6 8]) <|
  .cond (.tmp 9) (.skip) (.exit 0)) <|
  .seq (.block 1 (.seq (.region [(5,9)] [⟨none,[aa 12 0,aI 13 12,ay 14 .lss 13 4,aa 15 14]⟩,⟨(some (15,true)),[aa 16 0,((some 17),.op (.old (.convert 91 9 (.tmp 16)) 9)),aa 18 3,aa 19 4,aL 20 1 18 19,ao 21 20,((some 22),.op (.iE .add (.tmp 17) (.tmp 21))),aF 23 192 [22]]⟩,⟨none,[bG 24 15 23]⟩]) <|
  .cond (.tmp 24) (.seq (al [aD 2 4]) <|
  .ret) (.skip))) <|
  al [aa 10 4,ay 11 .add 10 1,aa 4 11]
def kU:DF:=⟨.seq (al [aD 2 0]) <|
  .seq (.region [] [⟨none,[((some 5),.op (.bD 5 1 [(.val (.string ⟨#[]⟩))] [(0,(.val (.val (.string ⟨#[120,39]⟩)))),(1,(.val (.val (.string ⟨#[39]⟩)))),(2,(.val (.val (.string ⟨#[92,110,39]⟩)))),(3,(.val (.val (.string ⟨#[110,39]⟩)))),(4,(.val (.val (.string ⟨#[92,39,39]⟩))))])),aa 3 5]⟩]) <|
  .seq (.seq (al [aD 4 0]) <|
  .block 0 (.loop qu)) <|
  .seq (al [aD 2 3]) <|
  .ret,
  [.tmp 2],25⟩
theorem p0:aS Tryz.prog 217 []=some kU:=by kernel_rfl
def k9:DF:=⟨.seq (al [aD 2 0]) <|
  .seq (.seq (al [aa 3 0]) <|
  .block 0 (.seq (.region [] [⟨none,[((some 5),.op (.iE .eql (.tmp 3) (.val (.val (.string ⟨#[116,111,107,101,110]⟩))))),aa 4 5]⟩]) <|
  .cond (.tmp 4) (.seq (al [aD 2 3]) <|
  .ret) (.seq (.region [] [⟨none,[((some 7),.op (.iE .eql (.tmp 3) (.val (.val (.string ⟨#[108,101,102,116]⟩))))),aa 6 7]⟩]) <|
  .cond (.tmp 6) (.seq (al [aD 2 4]) <|
  .ret) (.seq (.region [] [⟨none,[((some 9),.op (.iE .eql (.tmp 3) (.val (.val (.string ⟨#[114,105,103,104,116]⟩))))),aa 8 9]⟩]) <|
  .cond (.tmp 8) (.seq (al [aD 2 5]) <|
  .ret) (.seq (.region [] [⟨none,[((some 11),.op (.iE .eql (.tmp 3) (.val (.val (.string ⟨#[110,111,110,97,115,115,111,99]⟩))))),aa 10 11]⟩]) <|
  .cond (.tmp 10) (.seq (al [aD 2 6]) <|
  .ret) (.seq (.region [] [⟨none,[((some 13),.op (.iE .eql (.tmp 3) (.val (.val (.string ⟨#[115,116,97,114,116]⟩))))),aa 12 13]⟩]) <|
  .cond (.tmp 12) (.seq (al [aD 2 7]) <|
  .ret) (.seq (.region [] [⟨none,[((some 15),.op (.iE .eql (.tmp 3) (.val (.val (.string ⟨#[112,114,101,99]⟩))))),aa 14 15]⟩]) <|
  .cond (.tmp 14) (.seq (al [aD 2 8]) <|
  .ret) (.skip)))))))) <|
  .seq (al [aD 2 0]) <|
  .ret,
  [.tmp 2],16⟩
theorem pL:aS Tryz.prog 218 []=some k9:=by kernel_rfl
def nU:DF:=⟨.seq (al [aD 2 0]) <|
  .seq (.seq (al [aa 3 0]) <|
  .block 0 (.seq (al [((some 5),.op (.arith .eql (.tmp 3) (.val (.val (.int .u8 58))))),aa 4 5]) <|
  .cond (.tmp 4) (.seq (al [aD 2 10]) <|
  .ret) (.seq (al [((some 7),.op (.arith .eql (.tmp 3) (.val (.val (.int .u8 124))))),aa 6 7]) <|
  .cond (.tmp 6) (.seq (al [aD 2 11]) <|
  .ret) (.seq (al [((some 9),.op (.arith .eql (.tmp 3) (.val (.val (.int .u8 59))))),aa 8 9]) <|
  .cond (.tmp 8) (.seq (al [aD 2 12]) <|
  .ret) (.skip))))) <|
  .seq (al [aD 2 0]) <|
  .ret,
  [.tmp 2],10⟩
theorem sB:aS Tryz.prog 219 []=some nU:=by kernel_rfl
def v8:DC :=
  .seq (.seq (.region [] [⟨none,[aa 21 7,bT 22 21,aq 23 3 22,ao 24 23,ay 25 .eql 24 0,aa 26 25]⟩,⟨(some (26,true)),[aa 27 7,bT 28 27,aq 29 0 28,ao 30 29,aI 31 30,ay 32 .gtr 31 0]⟩,⟨none,[bG 33 26 32,aa 34 33]⟩,⟨(some (34,true)),[aa 35 7,aF 36 183 [35],ay 37 .neq 36 9]⟩,⟨none,[bG 38 34 37]⟩]) <|
  .cond (.tmp 38) (.skip) (.exit 0)) <|
  .block 1 (.region [(1,3)] [⟨none,[aq 39 1 8,ao 40 39,aa 41 7,aF 42 182 [41],((some 43),.op (.app 5 88 (.tmp 40) (.tmp 42))),aq 44 1 8,(none,.op (.store 1 (.tmp 44) (.tmp 43)))]⟩])
def qg:DF:=⟨.seq (al [((some 4),.op (.alloc [(.emp 1),(.emp 1)])),((some 5),.op (.bg (.val (.val (.complex .f64 0 0))))),aD 6 0]) <|
  .seq (al [aa 9 0,aa 10 1,((some 11),.op (.build [(.emp 1),(.val (.complex .f64 0 0)),(.val (.complex .f64 0 0)),(.val (.int .i64 0))] [(0,1,(.tmp 9)),(1,1,(.tmp 10))])),((some 12),.op (.box (.tmp 11))),aa 7 12]) <|
  .seq (al [aa 13 7,aF 14 180 [13],((some 15),.op (.build [(.emp 1),(.emp 1)] [(0,1,(.tmp 14))])),((some 8),.op (.alloc [(.emp 1),(.emp 1)])),(none,.op (.store 2 (.tmp 8) (.tmp 15)))]) <|
  .seq (al [aa 16 7,cU 17 181 [(.tmp 16),(.val (.val (.int .i64 9))),(.val (.val (.int .i64 9)))]]) <|
  .seq (al [aa 18 7,aF 19 182 [18],aq 20 1 8,(none,.op (.store 1 (.tmp 20) (.tmp 19)))]) <|
  .seq (.block 0 (.loop v8)) <|
  .seq (.seq (.region [] [⟨none,[aa 45 7,bT 46 45,aq 47 3 46,ao 48 47,ay 49 .eql 48 0,aa 50 49]⟩,⟨(some (50,true)),[aa 51 7,bT 52 51,aq 53 0 52,ao 54 53,aI 55 54,ay 56 .gtr 55 0]⟩,⟨none,[bG 57 50 56]⟩]) <|
  .cond (.tmp 57) (al [aa 58 7,cU 59 181 [(.tmp 58),(.val (.val (.int .i64 9))),(.val (.val (.int .i64 9)))]]) (.skip)) <|
  .seq (.seq (al [aa 60 7,bT 61 60,aq 62 0 61,ao 63 62,aI 64 63,ay 65 .gtr 64 0]) <|
  .cond (.tmp 65) (al [aa 66 7,aF 67 184 [66]]) (.skip)) <|
  .seq (.seq (al [aa 68 7,bT 69 68,aq 70 3 69,ao 71 70,ay 72 .neq 71 0]) <|
  .cond (.tmp 72) (.seq (.region [(4,9),(8,9)] [⟨none,[((some 73),.op (.build [(.emp 1),(.emp 1)] [])),aa 74 7,bT 75 74,aq 76 2 75,ao 77 76,aa 78 7,bT 79 78,aq 80 3 79,ao 81 80,(none,.op (.store 2 (.tmp 4) (.tmp 73))),aa 5 77,aa 6 81]⟩]) <|
  .ret) (.skip)) <|
  .seq (al [aJ 82 2 8,(none,.op (.store 2 (.tmp 4) (.tmp 82))),((some 5),.op (.bg (.val (.val (.complex .f64 0 0))))),aD 6 0]) <|
  .ret,
  [.cell 4 (some 2),.tmp 5,.tmp 6],83⟩
theorem uN:aS Tryz.prog 135 []=some qg:=by kernel_rfl
def iW:DF:=⟨.seq (al [aD 2 0]) <|
  .seq (.seq (.region [] [⟨none,[aa 3 0,bT 4 3,aq 5 3 4,ao 6 5,ay 7 .neq 6 0,aa 8 7]⟩,⟨(some (8,false)),[aa 9 0,bT 10 9,aq 11 0 10,ao 12 11,aI 13 12,ay 14 .eql 13 0]⟩,⟨none,[bF 15 8 14]⟩]) <|
  .cond (.tmp 15) (.seq (al [aD 2 0]) <|
  .ret) (.skip)) <|
  .seq (al [aa 16 0,bT 17 16,aq 18 0 17,ao 19 18,((some 20),.op (.idx 3 (.tmp 19) (.val (.val (.int .i64 0))))),aq 21 0 20,ao 22 21,aa 2 22]) <|
  .ret,
  [.tmp 2],23⟩
theorem mY:aS Tryz.prog 183 []=some iW:=by kernel_rfl
def m7:DC :=
  .seq (.seq (al [aa 10 0,bT 11 10,aq 12 3 11,ao 13 12,ay 14 .eql 13 0]) <|
  .cond (.tmp 14) (.skip) (.exit 0)) <|
  .block 1 (.seq (.region [(0,2),(2,4)] [⟨none,[aJ 15 2 4,aa 16 0,aF 17 220 [16],((some 18),.op (.build [(.val (.string ⟨#[]⟩)),(.val (.complex .f64 0 0)),(.emp 1),(.val (.string ⟨#[]⟩)),(.val (.complex .f64 0 0))] [(0,2,(.tmp 15)),(2,1,(.tmp 17))])),((some 5),.op (.alloc [(.val (.string ⟨#[]⟩)),(.val (.complex .f64 0 0)),(.emp 1),(.val (.string ⟨#[]⟩)),(.val (.complex .f64 0 0))])),(none,.op (.store 5 (.tmp 5) (.tmp 18)))]⟩]) <|
  .seq (.seq (al [aa 19 0,cU 20 221 [(.tmp 19),(.val (.val (.int .i64 8))),(.val (.val (.int .i64 8)))]]) <|
  .cond (.tmp 20) (.seq (al [aa 21 0,cU 22 181 [(.tmp 21),(.val (.val (.int .i64 8))),(.val (.val (.int .i64 8)))]]) <|
  al [aa 23 0,cU 24 181 [(.tmp 23),(.val (.val (.int .i64 1))),(.val (.val (.int .i64 2)))],aq 25 3 5,(none,.op (.store 2 (.tmp 25) (.tmp 24)))]) (.skip)) <|
  .seq (.region [] [⟨none,[aa 26 3,aJ 27 5 5,((some 28),.op (.bD 1 5 [(.val (.string ⟨#[]⟩)),(.val (.complex .f64 0 0)),(.emp 1),(.val (.string ⟨#[]⟩)),(.val (.complex .f64 0 0))] [(0,(.tmp 27))])),((some 29),.op (.app 5 88 (.tmp 26) (.tmp 28))),aa 3 29]⟩]) <|
  .seq (.seq (al [aa 30 0,cU 31 221 [(.tmp 30),(.val (.val (.int .i64 11))),(.val (.val (.int .i64 11)))],bW 32 31]) <|
  .cond (.tmp 32) (.seq (al [aa 33 0,cU 34 181 [(.tmp 33),(.val (.val (.int .i64 12))),(.val (.val (.int .i64 12)))]]) <|
  .seq (al [aa 35 3,aa 2 35]) <|
  .ret) (.skip)) <|
  al [aa 36 0,cU 37 181 [(.tmp 36),(.val (.val (.int .i64 11))),(.val (.val (.int .i64 11)))]])
def iF:DF:=⟨.seq (al [((some 2),.op (.bg (.val (.emp 1))))]) <|
  .seq (al [((some 3),.op (.bg (.val (.emp 1))))]) <|
  .seq (.region [] [⟨none,[aa 6 0,cU 7 181 [(.tmp 6),(.val (.val (.int .i64 1))),(.val (.val (.int .i64 1)))],((some 4),.op (.alloc [(.val (.string ⟨#[]⟩)),(.val (.complex .f64 0 0))])),(none,.op (.store 2 (.tmp 4) (.tmp 7)))]⟩]) <|
  .seq (al [aa 8 0,cU 9 181 [(.tmp 8),(.val (.val (.int .i64 10))),(.val (.val (.int .i64 10)))]]) <|
  .seq (.block 0 (.loop m7)) <|
  .seq (al [aa 38 3,aa 2 38]) <|
  .ret,
  [.tmp 2],39⟩
theorem mo:aS Tryz.prog 182 []=some iF:=by kernel_rfl
def oo:DC :=
  .seq (.seq (al [aa 4 0,cU 5 221 [(.tmp 4),(.val (.val (.int .i64 1))),(.val (.val (.int .i64 2)))]]) <|
  .cond (.tmp 5) (.skip) (.exit 0)) <|
  .block 1 (.region [] [⟨none,[aa 6 3,aa 7 0,cU 8 181 [(.tmp 7),(.val (.val (.int .i64 1))),(.val (.val (.int .i64 2)))],((some 9),.op (.bD 1 2 [(.val (.string ⟨#[]⟩)),(.val (.complex .f64 0 0))] [(0,(.tmp 8))])),((some 10),.op (.app 2 32 (.tmp 6) (.tmp 9))),aa 3 10]⟩])
def iY:DF:=⟨.seq (al [((some 2),.op (.bg (.val (.emp 1))))]) <|
  .seq (al [((some 3),.op (.bg (.val (.emp 1))))]) <|
  .seq (.block 0 (.loop oo)) <|
  .seq (al [aa 11 3,aa 2 11]) <|
  .ret,
  [.tmp 2],12⟩
theorem mV:aS Tryz.prog 220 []=some iY:=by kernel_rfl
def j3:DF:=⟨.seq (al [aQ 6 false]) <|
  .seq (.region [] [⟨none,[aa 7 0,bT 8 7,aq 9 0 8,ao 10 9,aI 11 10,ay 12 .gtr 11 0,aa 13 12]⟩,⟨(some (13,true)),[aa 14 0,aF 15 183 [14],aa 16 1,aK 17 .eql 15 16,aa 18 17]⟩,⟨(some (18,false)),[aa 19 0,aF 20 183 [19],aa 21 2,aK 22 .eql 20 21]⟩,⟨(some (13,true)),[bF 23 18 22]⟩,⟨none,[bG 24 13 23,aa 6 24]⟩]) <|
  .ret,
  [.tmp 6],25⟩
theorem oM:aS Tryz.prog 221 []=some j3:=by kernel_rfl
def iQ:DF:=⟨.seq (.region [] [⟨none,[((some 6),.op (.alloc [(.val (.string ⟨#[]⟩)),(.val (.complex .f64 0 0))]))]⟩]) <|
  .seq (.seq (.region [] [⟨none,[aa 8 0,bT 9 8,aq 10 3 9,ao 11 10,ay 12 .neq 11 0,aa 13 12]⟩,⟨(some (13,false)),[aa 14 0,aa 15 1,aa 16 2,aF 17 221 [14,15,16],bW 18 17]⟩,⟨none,[bF 19 13 18]⟩]) <|
  .cond (.tmp 19) (.seq (al [aa 20 0,aF 21 184 [20]]) <|
  .seq (.region [] [⟨none,[((some 22),.op (.build [(.val (.string ⟨#[]⟩)),(.val (.complex .f64 0 0))] [])),(none,.op (.store 2 (.tmp 6) (.tmp 22)))]⟩]) <|
  .ret) (.skip)) <|
  .seq (.region [] [⟨none,[aa 23 0,bT 24 23,aq 25 0 24,ao 26 25,((some 27),.op (.idx 3 (.tmp 26) (.val (.val (.int .i64 0))))),aJ 28 3 27,((some 7),.op (.alloc [(.val (.int .i64 0)),(.val (.string ⟨#[]⟩)),(.val (.complex .f64 0 0))])),(none,.op (.store 3 (.tmp 7) (.tmp 28)))]⟩]) <|
  .seq (al [aa 29 0,aa 30 0,bT 31 30,aq 32 0 31,ao 33 32,((some 34),.op (.slice 3 (.tmp 33) (some (.val (.val (.int .i64 1)))) none)),bT 35 29,aq 36 0 35,(none,.op (.store 1 (.tmp 36) (.tmp 34)))]) <|
  .seq (.region [] [⟨none,[aq 37 1 7,ao 38 37,aq 39 2 7,ao 40 39,((some 41),.op (.build [(.val (.string ⟨#[]⟩)),(.val (.complex .f64 0 0))] [(0,1,(.tmp 38)),(1,1,(.tmp 40))])),(none,.op (.store 2 (.tmp 6) (.tmp 41)))]⟩]) <|
  .ret,
  [.cell 6 (some 2)],42⟩
theorem mT:aS Tryz.prog 181 []=some iQ:=by kernel_rfl
def iZ:DF:=⟨.seq (.seq (al [aa 2 0,bT 3 2,aq 4 3 3,ao 5 4,ay 6 .neq 5 0]) <|
  .cond (.tmp 6) (.ret) (.skip)) <|
  .seq (al [aa 7 0,aa 8 0,aa 9 0,bT 10 9,aq 11 1 10,ao 12 11,bT 13 7,aq 14 2 13,(none,.op (.store 1 (.tmp 14) (.tmp 12))),bT 15 8,aq 16 3 15,(none,.op (.store 1 (.tmp 16) (.val (.val (.int .i64 4)))))]) <|
  .seq (al [aa 17 0,bT 18 17,aq 19 0 18,ao 20 19,aI 21 20,ay 22 .gtr 21 0]) <|
  .cond (.tmp 22) (al [aa 23 0,aa 24 0,aa 25 0,bT 26 25,aq 27 0 26,ao 28 27,((some 29),.op (.idx 3 (.tmp 28) (.val (.val (.int .i64 0))))),aq 30 2 29,ao 31 30,bT 32 23,aq 33 2 32,(none,.op (.store 1 (.tmp 33) (.tmp 31))),bT 34 24,aq 35 3 34,(none,.op (.store 1 (.tmp 35) (.val (.val (.int .i64 3)))))]) (.skip),
  [],36⟩
theorem m9:aS Tryz.prog 184 []=some iZ:=by kernel_rfl
def nf:DC :=
  .seq (.seq (.region [] [⟨none,[aa 6 0,bT 7 6,aq 8 3 7,ao 9 8,ay 10 .eql 9 0,aa 11 10]⟩,⟨(some (11,true)),[aa 12 0,bT 13 12,aq 14 0 13,ao 15 14,aI 16 15,ay 17 .gtr 16 0]⟩,⟨none,[bG 18 11 17,aa 19 18]⟩,⟨(some (19,true)),[aa 20 0,aF 21 183 [20],ay 22 .neq 21 9]⟩,⟨none,[bG 23 19 22]⟩]) <|
  .cond (.tmp 23) (.skip) (.exit 0)) <|
  .block 1 (.seq (al [aa 24 0,aF 25 183 [24],aa 4 25]) <|
  .seq (.seq (al [aa 26 4,ay 27 .eql 26 7]) <|
  .cond (.tmp 27) (.seq (al [aa 28 0,aa 29 4,aa 30 4,aF 31 181 [28,29,30]]) <|
  .seq (.region [] [⟨none,[aa 32 3,aa 33 4,aa 34 0,cU 35 181 [(.tmp 34),(.val (.val (.int .i64 1))),(.val (.val (.int .i64 1)))],((some 36),.op (.bD 1 2 [(.val (.string ⟨#[]⟩)),(.val (.complex .f64 0 0))] [(0,(.tmp 35))])),((some 37),.op (.build [(.val (.int .i64 0)),(.emp 1)] [(0,1,(.tmp 33)),(1,1,(.tmp 36))])),((some 38),.op (.bD 1 2 [(.val (.int .i64 0)),(.emp 1)] [(0,(.tmp 37))])),((some 39),.op (.app 2 32 (.tmp 32) (.tmp 38))),aa 3 39]⟩]) <|
  .exit 1) (.skip)) <|
  .seq (.seq (.region [] [⟨none,[aa 40 4,ay 41 .neq 40 3,aa 42 41]⟩,⟨(some (42,true)),[aa 43 4,ay 44 .neq 43 4]⟩,⟨none,[bG 45 42 44,aa 46 45]⟩,⟨(some (46,true)),[aa 47 4,ay 48 .neq 47 5]⟩,⟨none,[bG 49 46 48,aa 50 49]⟩,⟨(some (50,true)),[aa 51 4,ay 52 .neq 51 6]⟩,⟨none,[bG 53 50 52]⟩]) <|
  .cond (.tmp 53) (.seq (al [aa 54 0,aF 55 184 [54]]) <|
  .exit 1) (.skip)) <|
  .seq (al [aa 56 0,aa 57 4,aa 58 4,aF 59 181 [56,57,58]]) <|
  .seq (.region [] [⟨none,[aa 60 0,cU 61 181 [(.tmp 60),(.val (.val (.int .i64 1))),(.val (.val (.int .i64 2)))],((some 5),.op (.alloc [(.val (.string ⟨#[]⟩)),(.val (.complex .f64 0 0))])),(none,.op (.store 2 (.tmp 5) (.tmp 61)))]⟩]) <|
  .region [(2,5),(3,5)] [⟨none,[aa 62 3,aa 63 4,aJ 64 2 5,((some 65),.op (.bD 1 2 [(.val (.string ⟨#[]⟩)),(.val (.complex .f64 0 0))] [(0,(.tmp 64))])),aa 66 0,aF 67 220 [66],((some 68),.op (.app 2 32 (.tmp 65) (.tmp 67))),((some 69),.op (.build [(.val (.int .i64 0)),(.emp 1)] [(0,1,(.tmp 63)),(1,1,(.tmp 68))])),((some 70),.op (.bD 1 2 [(.val (.int .i64 0)),(.emp 1)] [(0,(.tmp 69))])),((some 71),.op (.app 2 32 (.tmp 62) (.tmp 70))),aa 3 71]⟩])
def iC:DF:=⟨.seq (al [((some 2),.op (.bg (.val (.emp 1))))]) <|
  .seq (al [((some 3),.op (.bg (.val (.emp 1))))]) <|
  .seq (.block 0 (.loop nf)) <|
  .seq (al [aa 72 3,aa 2 72]) <|
  .ret,
  [.tmp 2],73⟩
theorem mr:aS Tryz.prog 180 []=some iC:=by kernel_rfl
def so:DC :=
  .seq (.seq (.region [] [⟨none,[aa 17 6,aq 18 1 1,ao 19 18,aI 20 19,aK 21 .lss 17 20,aa 22 21]⟩,⟨(some (22,true)),[aa 23 5,bT 24 23,aq 25 10 24,ao 26 25,ay 27 .eql 26 0]⟩,⟨none,[bG 28 22 27]⟩]) <|
  .cond (.tmp 28) (.skip) (.exit 0)) <|
  .seq (.block 1 (al [aa 31 5,aq 32 1 1,ao 33 32,aa 34 6,aL 35 5 33 34,aJ 36 5 35,aF 37 138 [31,36]])) <|
  al [aa 29 6,ay 30 .add 29 1,aa 6 30]
def mM:DF:=⟨.seq (al [cr 1 0,((some 2),.op (.alloc [(.emp 1),(.emp 1),(.emp 1),(.val (.int .i64 0))])),((some 3),.op (.bg (.val (.val (.complex .f64 0 0))))),aD 4 0]) <|
  .seq (.region [] [⟨none,[((some 7),.op (.build [(.emp 1),(.emp 1),(.emp 1),(.val (.int .i64 0)),(.emp 1),(.val (.string ⟨#[]⟩)),(.val (.complex .f64 0 0)),(.val (.bool false)),(.val (.int .i64 0)),(.val (.complex .f64 0 0)),(.val (.int .i64 0))] [])),((some 8),.op (.box (.tmp 7))),aa 5 8]⟩]) <|
  .seq (al [aa 9 5,aq 10 0 1,ao 11 10,aF 12 136 [9,11]]) <|
  .seq (al [aa 13 5,aq 14 1 1,ao 15 14,aF 16 137 [13,15]]) <|
  .seq (.seq (al [aD 6 0]) <|
  .block 0 (.loop so)) <|
  .seq (.seq (.region [] [⟨none,[aa 38 5,bT 39 38,aq 40 7 39,ao 41 40,aa 42 41]⟩,⟨(some (42,true)),[aa 43 5,bT 44 43,aq 45 0 44,aJ 46 4 45,aa 47 5,bT 48 47,aq 49 5 48,aq 50 0 49,ao 51 50,aF 52 139 [46,51],ay 53 .lss 52 0]⟩,⟨none,[bG 54 42 53]⟩]) <|
  .cond (.tmp 54) (al [aa 55 5,aa 56 5,bT 57 56,aq 58 5 57,aJ 59 2 58,cU 60 140 [(.tmp 55),(.tmp 59),(.val (.val (.int .i64 8)))]]) (.skip)) <|
  .seq (.seq (al [aq 61 1 1,ao 62 61,aI 63 62,ay 64 .eql 63 0]) <|
  .cond (.tmp 64) (.region [] [⟨none,[aa 65 5,((some 66),.op (.build [(.val (.string ⟨#[]⟩)),(.val (.complex .f64 0 0))] [])),cU 67 140 [(.tmp 65),(.tmp 66),(.val (.val (.int .i64 8)))]]⟩]) (.skip)) <|
  .seq (.seq (al [aa 68 5,bT 69 68,aq 70 10 69,ao 71 70,ay 72 .neq 71 0]) <|
  .cond (.tmp 72) (.seq (.region [(4,9),(8,9)] [⟨none,[((some 73),.op (.build [(.emp 1),(.emp 1),(.emp 1),(.val (.int .i64 0))] [])),aa 74 5,bT 75 74,aq 76 9 75,ao 77 76,aa 78 5,bT 79 78,aq 80 10 79,ao 81 80,(none,.op (.store 4 (.tmp 2) (.tmp 73))),aa 3 77,aa 4 81]⟩]) <|
  .ret) (.skip)) <|
  .seq (.seq (al [aa 82 5,bT 83 82,aq 84 7 83,ao 85 84]) <|
  .cond (.tmp 85) (al [aa 86 5,aa 87 5,bT 88 87,aq 89 0 88,aJ 90 4 89,aa 91 5,bT 92 91,aq 93 5 92,aq 94 0 93,ao 95 94,aF 96 139 [90,95],bT 97 86,aq 98 0 97,aq 99 3 98,(none,.op (.store 1 (.tmp 99) (.tmp 96)))]) (.skip)) <|
  .seq (al [aa 100 5,bT 101 100,aq 102 0 101,aJ 103 4 102,(none,.op (.store 4 (.tmp 2) (.tmp 103))),((some 3),.op (.bg (.val (.val (.complex .f64 0 0))))),aD 4 0]) <|
  .ret,
  [.cell 2 (some 4),.tmp 3,.tmp 4],104⟩
theorem rB:aS Tryz.prog 95 [1]=some mM:=by kernel_rfl
def po:DC :=
  .seq (.seq (.region [] [⟨none,[aa 28 5,aq 29 2 3,ao 30 29,aI 31 30,aK 32 .lss 28 31,aa 33 32]⟩,⟨(some (33,true)),[aa 34 0,bT 35 34,aq 36 10 35,ao 37 36,ay 38 .eql 37 0]⟩,⟨none,[bG 39 33 38]⟩]) <|
  .cond (.tmp 39) (.skip) (.exit 0)) <|
  .seq (.block 1 (.seq (.region [] [⟨none,[aq 42 2 3,ao 43 42,aa 44 5,aL 45 2 43 44,aJ 46 2 45,((some 6),.op (.alloc [(.val (.string ⟨#[]⟩)),(.val (.complex .f64 0 0))])),(none,.op (.store 2 (.tmp 6) (.tmp 46)))]⟩]) <|
  .seq (.seq (al [aq 47 0 6,ao 48 47,aF 49 151 [48],bW 50 49]) <|
  .cond (.tmp 50) (.seq (al [aa 51 0,aJ 52 2 6,cU 53 140 [(.tmp 51),(.tmp 52),(.val (.val (.int .i64 3)))]]) <|
  .ret) (.skip)) <|
  .seq (.seq (al [aa 54 5,ay 55 .eql 54 6]) <|
  .cond (.tmp 55) (.seq (al [aa 56 0,aJ 57 2 6,cU 58 140 [(.tmp 56),(.tmp 57),(.val (.val (.int .i64 5)))]]) <|
  .ret) (.skip)) <|
  .seq (al [aa 59 0,aJ 60 2 6,cU 61 186 [(.tmp 59),(.tmp 60),(.val (.val (.bool true)))],aa 7 61]) <|
  .seq (al [aq 62 1 4,ao 63 62,aa 64 7,((some 65),.op (.bD 1 1 [(.val (.int .i64 0))] [(0,(.tmp 64))])),((some 66),.op (.app 1 8 (.tmp 63) (.tmp 65))),aq 67 1 4,(none,.op (.store 1 (.tmp 67) (.tmp 66)))]) <|
  .seq (al [aa 68 7,ay 69 .geq 68 0]) <|
  .cond (.tmp 69) (al [aa 70 7,aq 71 2 4,(none,.op (.store 1 (.tmp 71) (.tmp 70)))]) (.skip))) <|
  al [aa 40 5,ay 41 .add 40 1,aa 5 41]
def j0:DF:=⟨.seq (al [cr 3 1]) <|
  .seq (.region [(7,9)] [⟨none,[aa 8 0,bT 9 8,aq 10 0 9,aJ 11 4 10,aq 12 0 3,aq 13 0 12,ao 14 13,aF 15 139 [11,14],((some 16),.op (.build [(.val (.int .i64 0)),(.emp 1),(.val (.int .i64 0))] [(0,1,(.tmp 15)),(2,1,(.val (.val (.int .i64 (-1)))))])),((some 4),.op (.alloc [(.val (.int .i64 0)),(.emp 1),(.val (.int .i64 0))])),(none,.op (.store 3 (.tmp 4) (.tmp 16)))]⟩]) <|
  .seq (.seq (al [aa 17 0,bT 18 17,aq 19 0 18,aq 20 2 19,ao 21 20,aI 22 21,ay 23 .eql 22 40]) <|
  .cond (.tmp 23) (al [aa 24 0,aq 25 0 3,aJ 26 2 25,cU 27 140 [(.tmp 24),(.tmp 26),(.val (.val (.int .i64 5)))]]) (.skip)) <|
  .seq (.seq (al [aD 5 0]) <|
  .block 0 (.loop po)) <|
  .seq (.seq (.region [] [⟨none,[aq 72 3 3,aq 73 0 72,ao 74 73,((some 75),.op (.iE .neq (.tmp 74) (.val (.val (.string ⟨#[]⟩))))),aa 76 75]⟩,⟨(some (76,true)),[aa 77 0,bT 78 77,aq 79 10 78,ao 80 79,ay 81 .eql 80 0]⟩,⟨none,[bG 82 76 81]⟩]) <|
  .cond (.tmp 82) (.seq (.seq (al [aq 83 3 3,aq 84 0 83,ao 85 84,aF 86 151 [85],bW 87 86]) <|
  .cond (.tmp 87) (.seq (al [aa 88 0,aq 89 3 3,aJ 90 2 89,cU 91 140 [(.tmp 88),(.tmp 90),(.val (.val (.int .i64 3)))]]) <|
  .ret) (.skip)) <|
  al [aa 92 0,aq 93 3 3,aJ 94 2 93,cU 95 186 [(.tmp 92),(.tmp 94),(.val (.val (.bool false)))],aq 96 2 4,(none,.op (.store 1 (.tmp 96) (.tmp 95)))]) (.skip)) <|
  al [aa 97 0,aa 98 0,bT 99 98,aq 100 0 99,aq 101 2 100,ao 102 101,aJ 103 3 4,((some 104),.op (.bD 1 3 [(.val (.int .i64 0)),(.emp 1),(.val (.int .i64 0))] [(0,(.tmp 103))])),((some 105),.op (.app 3 40 (.tmp 102) (.tmp 104))),bT 106 97,aq 107 0 106,aq 108 2 107,(none,.op (.store 1 (.tmp 108) (.tmp 105)))],
  [],109⟩
theorem oI:aS Tryz.prog 138 [3]=some j0:=by kernel_rfl
def mB:DF:=⟨.seq (al [aQ 2 false]) <|
  .seq (.region [] [⟨none,[aa 3 0,aF 4 154 [3],aa 5 4]⟩,⟨(some (5,false)),[aa 6 0,aF 7 192 [6]]⟩,⟨none,[bF 8 5 7,aa 2 8]⟩]) <|
  .ret,
  [.tmp 2],9⟩
theorem rl:aS Tryz.prog 151 []=some mB:=by kernel_rfl
def uf:DC :=
  .seq (.seq (al [aa 18 3,aa 19 0,((some 20),.op (.gL (.tmp 19))),aK 21 .lss 18 20]) <|
  .cond (.tmp 21) (.skip) (.exit 0)) <|
  .seq (.block 1 (.seq (al [aa 24 0,aa 25 3,((some 26),.op (.c8 (.tmp 24) (.tmp 25))),aF 27 194 [26],bW 28 27]) <|
  .cond (.tmp 28) (.seq (al [aQ 2 false]) <|
  .ret) (.skip))) <|
  al [aa 22 3,ay 23 .add 22 1,aa 3 23]
def oc:DF:=⟨.seq (al [aQ 2 false]) <|
  .seq (.seq (.region [] [⟨none,[aa 4 0,((some 5),.op (.gL (.tmp 4))),ay 6 .eql 5 0,aa 7 6]⟩,⟨(some (7,false)),[aa 8 0,((some 9),.op (.gL (.tmp 8))),ay 10 .gtr 9 20]⟩,⟨none,[bF 11 7 10,aa 12 11]⟩,⟨(some (12,false)),[aa 13 0,((some 14),.op (.c8 (.tmp 13) (.val (.val (.int .i64 0))))),aF 15 193 [14],bW 16 15]⟩,⟨none,[bF 17 12 16]⟩]) <|
  .cond (.tmp 17) (.seq (al [aQ 2 false]) <|
  .ret) (.skip)) <|
  .seq (.seq (al [aD 3 0]) <|
  .block 0 (.loop uf)) <|
  .seq (al [aQ 2 true]) <|
  .ret,
  [.tmp 2],29⟩
theorem sD:aS Tryz.prog 154 []=some oc:=by kernel_rfl
def j1:DF:=⟨.seq (al [cr 4 1]) <|
  .seq (al [aa 6 0,bT 7 6,aq 8 10 7,ao 9 8,ay 10 .eql 9 0]) <|
  .cond (.tmp 10) (al [aa 11 0,aa 12 0,aq 13 1 4,ao 14 13,aa 15 2,bT 16 11,aq 17 9 16,(none,.op (.store 1 (.tmp 17) (.tmp 14))),bT 18 12,aq 19 10 18,(none,.op (.store 1 (.tmp 19) (.tmp 15)))]) (.skip),
  [],20⟩
theorem oH:aS Tryz.prog 140 [4]=some j1:=by kernel_rfl
def jc:DF:=⟨.seq (al [cr 4 1,aD 6 0]) <|
  .seq (al [aa 8 0,bT 9 8,aq 10 0 9,aJ 11 4 10,aq 12 0 4,ao 13 12,aF 14 139 [11,13],aa 7 14]) <|
  .seq (.block 0 (.seq (.region [] [⟨none,[aa 19 7,ay 20 .geq 19 0,aa 21 20]⟩,⟨(some (21,true)),[aa 22 2]⟩,⟨none,[bG 23 21 22,aa 18 23]⟩]) <|
  .cond (.tmp 18) (.seq (al [aa 24 7,((some 25),.op (.arith .sub (.val (.val (.int .i64 (-1)))) (.tmp 24))),aa 6 25]) <|
  .ret) (.seq (al [aa 27 7,ay 28 .geq 27 0,aa 26 28]) <|
  .cond (.tmp 26) (al [aa 29 0,aJ 30 2 4,cU 31 140 [(.tmp 29),(.tmp 30),(.val (.val (.int .i64 6)))]]) (.seq (.region [] [⟨none,[aa 33 0,bT 34 33,aq 35 0 34,aJ 36 4 35,aq 37 0 4,ao 38 37,aF 39 152 [36,38],ay 40 .geq 39 0,aa 41 40]⟩,⟨(some (41,false)),[aq 42 0 4,ao 43 42,aF 44 192 [43]]⟩,⟨none,[bF 45 41 44,aa 46 45]⟩,⟨(some (46,false)),[aq 47 0 4,ao 48 47,((some 49),.op (.iE .eql (.tmp 48) (.val (.val (.string ⟨#[101,114,114,111,114]⟩)))))]⟩,⟨none,[bF 50 46 49,aa 32 50]⟩]) <|
  .cond (.tmp 32) (.seq (al [aa 51 0,aJ 52 2 4,aF 53 223 [51,52],aa 6 53]) <|
  .ret) (al [aa 15 0,aJ 16 2 4,cU 17 140 [(.tmp 15),(.tmp 16),(.val (.val (.int .i64 6)))]]))))) <|
  .seq (al [aD 6 0]) <|
  .ret,
  [.tmp 6],54⟩
theorem m3:aS Tryz.prog 186 [4]=some jc:=by kernel_rfl
def uP:DC :=
  .seq (.seq (al [aa 6 5,aq 7 1 2,ao 8 7,aI 9 8,aK 10 .lss 6 9]) <|
  .cond (.tmp 10) (.skip) (.exit 0)) <|
  .seq (.block 1 (.seq (al [aq 13 1 2,ao 14 13,aa 15 5,aL 16 1 14 15,ao 17 16,aa 18 1,((some 19),.op (.iE .eql (.tmp 17) (.tmp 18)))]) <|
  .cond (.tmp 19) (.seq (al [aa 20 5,aa 4 20]) <|
  .ret) (.skip))) <|
  al [aa 11 5,ay 12 .add 11 1,aa 5 12]
def oV:DF:=⟨.seq (al [cr 2 0,aD 4 0]) <|
  .seq (.seq (al [aD 5 0]) <|
  .block 0 (.loop uP)) <|
  .seq (al [aD 4 (-1)]) <|
  .ret,
  [.tmp 4],21⟩
theorem tf:aS Tryz.prog 139 [2]=some oV:=by kernel_rfl
def ud:DC :=
  .seq (.seq (al [aa 6 5,aq 7 0 2,ao 8 7,aI 9 8,aK 10 .lss 6 9]) <|
  .cond (.tmp 10) (.skip) (.exit 0)) <|
  .seq (.block 1 (.seq (al [aq 13 0 2,ao 14 13,aa 15 5,aL 16 3 14 15,aq 17 0 16,ao 18 17,aa 19 1,((some 20),.op (.iE .eql (.tmp 18) (.tmp 19)))]) <|
  .cond (.tmp 20) (.seq (al [aa 21 5,aa 4 21]) <|
  .ret) (.skip))) <|
  al [aa 11 5,ay 12 .add 11 1,aa 5 12]
def oB:DF:=⟨.seq (al [cr 2 0,aD 4 0]) <|
  .seq (.seq (al [aD 5 0]) <|
  .block 0 (.loop ud)) <|
  .seq (al [aD 4 (-1)]) <|
  .ret,
  [.tmp 4],22⟩
theorem r9:aS Tryz.prog 152 [2]=some oB:=by kernel_rfl
def ig:DF:=⟨.seq (al [cr 3 1,aD 4 0]) <|
  .seq (al [aa 6 0,bT 7 6,aq 8 0 7,aJ 9 4 8,aq 10 0 3,ao 11 10,aF 12 152 [9,11],aa 5 12]) <|
  .seq (.seq (al [aa 13 5,ay 14 .geq 13 0]) <|
  .cond (.tmp 14) (.seq (al [aa 15 5,aa 4 15]) <|
  .ret) (.skip)) <|
  .seq (.seq (al [aa 16 0,bT 17 16,aq 18 0 17,aq 19 0 18,ao 20 19,aI 21 20,ay 22 .eql 21 24]) <|
  .cond (.tmp 22) (.seq (al [aa 23 0,aJ 24 2 3,cU 25 140 [(.tmp 23),(.tmp 24),(.val (.val (.int .i64 5)))]]) <|
  .seq (al [aD 4 0]) <|
  .ret) (.skip)) <|
  .seq (.region [] [⟨none,[aa 26 0,aa 27 0,bT 28 27,aq 29 0 28,aq 30 0 29,ao 31 30,aq 32 0 3,ao 33 32,((some 34),.op (.build [(.val (.string ⟨#[]⟩)),(.val (.int .i64 0)),(.val (.int .i64 0))] [(0,1,(.tmp 33))])),((some 35),.op (.bD 1 3 [(.val (.string ⟨#[]⟩)),(.val (.int .i64 0)),(.val (.int .i64 0))] [(0,(.tmp 34))])),((some 36),.op (.app 3 32 (.tmp 31) (.tmp 35))),bT 37 26,aq 38 0 37,aq 39 0 38,(none,.op (.store 1 (.tmp 39) (.tmp 36)))]⟩]) <|
  .seq (al [aa 40 0,bT 41 40,aq 42 0 41,aq 43 0 42,ao 44 43,aI 45 44,ay 46 .sub 45 1,aa 4 46]) <|
  .ret,
  [.tmp 4],47⟩
theorem lK:aS Tryz.prog 223 [3]=some ig:=by kernel_rfl
def oL:DC :=
  .seq (.seq (.region [] [⟨none,[aa 60 7,aq 61 1 5,ao 62 61,aI 63 62,aK 64 .lss 60 63,aa 65 64]⟩,⟨(some (65,true)),[aa 66 0,bT 67 66,aq 68 10 67,ao 69 68,ay 70 .eql 69 0]⟩,⟨none,[bG 71 65 70]⟩]) <|
  .cond (.tmp 71) (.skip) (.exit 2)) <|
  .seq (.block 3 (al [aa 74 0,aq 75 0 5,ao 76 75,aq 77 1 5,ao 78 77,aa 79 7,aL 80 2 78 79,aJ 81 2 80,aF 82 185 [74,76,81]])) <|
  al [aa 72 7,ay 73 .add 72 1,aa 7 73]
def oQ:DC :=
  .seq (.seq (.region [] [⟨none,[aa 8 4,aa 9 1,aI 10 9,aK 11 .lss 8 10,aa 12 11]⟩,⟨(some (12,true)),[aa 13 0,bT 14 13,aq 15 10 14,ao 16 15,ay 17 .eql 16 0]⟩,⟨none,[bG 18 12 17]⟩]) <|
  .cond (.tmp 18) (.skip) (.exit 0)) <|
  .seq (.block 1 (.seq (al [aa 21 1,aa 22 4,aL 23 2 21 22,aJ 24 2 23,((some 5),.op (.alloc [(.val (.int .i64 0)),(.emp 1)])),(none,.op (.store 2 (.tmp 5) (.tmp 24)))]) <|
  .seq (.seq (.region [] [⟨none,[aq 25 0 5,ao 26 25,ay 27 .lss 26 3,aa 28 27]⟩,⟨(some (28,false)),[aq 29 0 5,ao 30 29,ay 31 .gtr 30 7]⟩,⟨none,[bF 32 28 31]⟩]) <|
  .cond (.tmp 32) (.seq (.region [] [⟨none,[((some 33),.op (.build [(.val (.string ⟨#[]⟩)),(.val (.complex .f64 0 0))] [])),((some 6),.op (.alloc [(.val (.string ⟨#[]⟩)),(.val (.complex .f64 0 0))])),(none,.op (.store 2 (.tmp 6) (.tmp 33)))]⟩]) <|
  .seq (.seq (al [aq 34 1 5,ao 35 34,aI 36 35,ay 37 .gtr 36 0]) <|
  .cond (.tmp 37) (al [aq 38 1 5,ao 39 38,((some 40),.op (.idx 2 (.tmp 39) (.val (.val (.int .i64 0))))),aJ 41 2 40,(none,.op (.store 2 (.tmp 6) (.tmp 41)))]) (.skip)) <|
  .seq (al [aa 42 0,aJ 43 2 6,cU 44 140 [(.tmp 42),(.tmp 43),(.val (.val (.int .i64 3)))]]) <|
  .ret) (.skip)) <|
  .seq (.seq (.region [] [⟨none,[aq 45 0 5,ao 46 45,ay 47 .neq 46 3,aa 48 47]⟩,⟨(some (48,true)),[aq 49 0 5,ao 50 49,ay 51 .neq 50 7]⟩,⟨none,[bG 52 48 51]⟩]) <|
  .cond (.tmp 52) (al [aa 53 0,bT 54 53,aq 55 8 54,ao 56 55,ay 57 .add 56 1,bT 58 53,aq 59 8 58,(none,.op (.store 1 (.tmp 59) (.tmp 57)))]) (.skip)) <|
  .seq (al [aD 7 0]) <|
  .block 2 (.loop oL))) <|
  al [aa 19 4,ay 20 .add 19 1,aa 4 20]
def jm:DF:=⟨.seq (al [aD 4 0]) <|
  .block 0 (.loop oQ),
  [],83⟩
theorem oh:aS Tryz.prog 136 []=some jm:=by kernel_rfl
def iG:DF:=⟨.seq (al [cr 5 2]) <|
  .block 0 (.seq (.region [] [⟨none,[aq 63 0 5,ao 64 63,aF 65 151 [64],bW 66 65,aa 67 66]⟩,⟨(some (67,false)),[aa 68 1,ay 69 .eql 68 7,aa 70 69]⟩,⟨(some (70,true)),[aq 71 0 5,ao 72 71,aF 73 154 [72],bW 74 73]⟩,⟨(some (67,false)),[bG 75 70 74]⟩,⟨none,[bF 76 67 75,aa 62 76]⟩]) <|
  .cond (.tmp 62) (al [aa 77 0,aJ 78 2 5,cU 79 140 [(.tmp 77),(.tmp 78),(.val (.val (.int .i64 3)))]]) (.seq (al [aa 81 1,ay 82 .eql 81 7,aa 80 82]) <|
  .cond (.tmp 80) (.seq (.seq (al [aa 83 0,bT 84 83,aq 85 7 84,ao 86 85]) <|
  .cond (.tmp 86) (al [aa 87 0,aJ 88 2 5,cU 89 140 [(.tmp 87),(.tmp 88),(.val (.val (.int .i64 7)))]]) (.skip)) <|
  al [aa 90 0,aa 91 0,aJ 92 2 5,bT 93 90,aq 94 5 93,(none,.op (.store 2 (.tmp 94) (.tmp 92))),bT 95 91,aq 96 7 95,(none,.op (.store 1 (.tmp 96) (.val (.val (.bool true)))))]) (.seq (al [aa 98 1,ay 99 .eql 98 3,aa 97 99]) <|
  .cond (.tmp 97) (.seq (.seq (al [aa 100 0,bT 101 100,aq 102 4 101,ao 103 102,aq 104 0 5,ao 105 104,aF 106 222 [103,105]]) <|
  .cond (.tmp 106) (al [aa 107 0,aJ 108 2 5,cU 109 140 [(.tmp 107),(.tmp 108),(.val (.val (.int .i64 7)))]]) (.skip)) <|
  .seq (.region [] [⟨none,[aa 110 0,aa 111 0,bT 112 111,aq 113 4 112,ao 114 113,aq 115 0 5,ao 116 115,((some 117),.op (.bD 1 1 [(.val (.string ⟨#[]⟩))] [(0,(.tmp 116))])),((some 118),.op (.app 1 16 (.tmp 114) (.tmp 117))),bT 119 110,aq 120 4 119,(none,.op (.store 1 (.tmp 120) (.tmp 118)))]⟩]) <|
  al [aa 121 0,aJ 122 2 5,aF 123 223 [121,122]]) (.seq (al [aa 7 0,bT 8 7,aq 9 0 8,aJ 10 4 9,aq 11 0 5,ao 12 11,aF 13 152 [10,12],aa 6 13]) <|
  .seq (.seq (.region [] [⟨none,[aa 14 6,ay 15 .geq 14 0,aa 16 15]⟩,⟨(some (16,true)),[aa 17 0,bT 18 17,aq 19 0 18,aq 20 0 19,ao 21 20,aa 22 6,aL 23 3 21 22,aq 24 1 23,ao 25 24,ay 26 .gtr 25 0]⟩,⟨none,[bG 27 16 26]⟩]) <|
  .cond (.tmp 27) (.seq (al [aa 28 0,aJ 29 2 5,cU 30 140 [(.tmp 28),(.tmp 29),(.val (.val (.int .i64 7)))]]) <|
  .ret) (.skip)) <|
  .seq (al [aa 31 0,aJ 32 2 5,aF 33 223 [31,32],aa 6 33]) <|
  .seq (al [aa 34 0,bT 35 34,aq 36 10 35,ao 37 36,ay 38 .eql 37 0]) <|
  .cond (.tmp 38) (al [aa 39 0,bT 40 39,aq 41 0 40,aq 42 0 41,ao 43 42,aa 44 6,aa 45 0,bT 46 45,aq 47 0 46,aq 48 0 47,ao 49 48,aa 50 6,aa 51 0,bT 52 51,aq 53 8 52,ao 54 53,aa 55 1,ay 56 .sub 55 4,ay 57 .add 56 1,aL 58 3 43 44,aq 59 1 58,(none,.op (.store 1 (.tmp 59) (.tmp 54))),aL 60 3 49 50,aq 61 2 60,(none,.op (.store 1 (.tmp 61) (.tmp 57)))]) (.skip))))),
  [],124⟩
theorem mq:aS Tryz.prog 185 [5]=some iG:=by kernel_rfl
def uT:DC :=
  .seq (.seq (al [aa 6 5,aa 7 0,aI 8 7,aK 9 .lss 6 8]) <|
  .cond (.tmp 9) (.skip) (.exit 0)) <|
  .seq (.block 1 (.seq (al [aa 12 0,aa 13 5,aL 14 1 12 13,ao 15 14,aa 16 1,((some 17),.op (.iE .eql (.tmp 15) (.tmp 16)))]) <|
  .cond (.tmp 17) (.seq (al [aQ 4 true]) <|
  .ret) (.skip))) <|
  al [aa 10 5,ay 11 .add 10 1,aa 5 11]
def oX:DF:=⟨.seq (al [aQ 4 false]) <|
  .seq (.seq (al [aD 5 0]) <|
  .block 0 (.loop uT)) <|
  .seq (al [aQ 4 false]) <|
  .ret,
  [.tmp 4],18⟩
theorem ug:aS Tryz.prog 222 []=some oX:=by kernel_rfl
def oJ:DC :=
  .seq (.seq (.region [] [⟨none,[aa 6 4,aa 7 1,aI 8 7,aK 9 .lss 6 8,aa 10 9]⟩,⟨(some (10,true)),[aa 11 0,bT 12 11,aq 13 10 12,ao 14 13,ay 15 .eql 14 0]⟩,⟨none,[bG 16 10 15]⟩]) <|
  .cond (.tmp 16) (.skip) (.exit 0)) <|
  .seq (.block 1 (.seq (.region [] [⟨none,[aa 19 1,aa 20 4,aL 21 5 19 20,aq 22 0 21,aJ 23 2 22,((some 5),.op (.alloc [(.val (.string ⟨#[]⟩)),(.val (.complex .f64 0 0))])),(none,.op (.store 2 (.tmp 5) (.tmp 23)))]⟩]) <|
  .block 2 (.seq (al [aq 38 0 5,ao 39 38,aF 40 154 [39],bW 41 40,aa 37 41]) <|
  .cond (.tmp 37) (al [aa 42 0,aJ 43 2 5,cU 44 140 [(.tmp 42),(.tmp 43),(.val (.val (.int .i64 3)))]]) (.seq (al [aa 46 0,bT 47 46,aq 48 0 47,aJ 49 4 48,aq 50 0 5,ao 51 50,aF 52 152 [49,51],ay 53 .geq 52 0,aa 45 53]) <|
  .cond (.tmp 45) (al [aa 54 0,aJ 55 2 5,cU 56 140 [(.tmp 54),(.tmp 55),(.val (.val (.int .i64 7)))]]) (.seq (al [aa 58 0,bT 59 58,aq 60 0 59,aJ 61 4 60,aq 62 0 5,ao 63 62,aF 64 139 [61,63],ay 65 .geq 64 0,aa 57 65]) <|
  .cond (.tmp 57) (.skip) (.seq (al [aa 67 0,bT 68 67,aq 69 0 68,aq 70 1 69,ao 71 70,aI 72 71,ay 73 .eql 72 16,aa 66 73]) <|
  .cond (.tmp 66) (al [aa 74 0,aJ 75 2 5,cU 76 140 [(.tmp 74),(.tmp 75),(.val (.val (.int .i64 5)))]]) (.region [] [⟨none,[aa 24 0,aa 25 0,bT 26 25,aq 27 0 26,aq 28 1 27,ao 29 28,aq 30 0 5,ao 31 30,((some 32),.op (.bD 1 1 [(.val (.string ⟨#[]⟩))] [(0,(.tmp 31))])),((some 33),.op (.app 1 16 (.tmp 29) (.tmp 32))),bT 34 24,aq 35 0 34,aq 36 1 35,(none,.op (.store 1 (.tmp 36) (.tmp 33)))]⟩]))))))) <|
  al [aa 17 4,ay 18 .add 17 1,aa 4 18]
def jz:DF:=⟨.seq (al [aD 4 0]) <|
  .block 0 (.loop oJ),
  [],77⟩
theorem ow:aS Tryz.prog 137 []=some jz:=by kernel_rfl
def Au:List (FuncId × DF):=[(49,nZ),(94,mP),(134,me),(177,oz),(212,oR),(213,oq),(214,nX),(215,mc),(232,lG),(178,qc),(216,pK),(179,oW),(194,mz),(193,mD),(192,k6),(217,kU),(218,k9),(219,nU),(135,qg),(183,iW),(182,iF),(220,iY),(221,j3),(181,iQ),(184,iZ),(180,iC),(95,mM),(138,j0),(151,mB),(154,oc),(140,j1),(186,jc),(139,oV),(152,oB),(223,ig),(136,jm),(185,iG),(222,oX),(137,jz)]
theorem H9:tM Tryz.prog Au:=by
  intro p hp
  simp only[Au,List.mem_cons,List.not_mem_nil,or_false] at hp
  rcases hp with rfl | rfl | rfl | rfl | rfl | rfl | rfl | rfl | rfl | rfl | rfl | rfl | rfl | rfl | rfl | rfl | rfl | rfl | rfl | rfl | rfl | rfl | rfl | rfl | rfl | rfl | rfl | rfl | rfl | rfl | rfl | rfl | rfl | rfl | rfl | rfl | rfl | rfl | rfl
  · exact ⟨_,sC⟩
  · exact ⟨_,rR⟩
  · exact ⟨_,qt⟩
  · exact ⟨_,sy⟩
  · exact ⟨_,tn⟩
  · exact ⟨_,sr⟩
  · exact ⟨_,rX⟩
  · exact ⟨_,qv⟩
  · exact ⟨_,qw⟩
  · exact ⟨_,uO⟩
  · exact ⟨_,uM⟩
  · exact ⟨_,s9⟩
  · exact ⟨_,rq⟩
  · exact ⟨_,rn⟩
  · exact ⟨_,ql⟩
  · exact ⟨_,p0⟩
  · exact ⟨_,pL⟩
  · exact ⟨_,sB⟩
  · exact ⟨_,uN⟩
  · exact ⟨_,mY⟩
  · exact ⟨_,mo⟩
  · exact ⟨_,mV⟩
  · exact ⟨_,oM⟩
  · exact ⟨_,mT⟩
  · exact ⟨_,m9⟩
  · exact ⟨_,mr⟩
  · exact ⟨_,rB⟩
  · exact ⟨_,oI⟩
  · exact ⟨_,rl⟩
  · exact ⟨_,sD⟩
  · exact ⟨_,oH⟩
  · exact ⟨_,m3⟩
  · exact ⟨_,tf⟩
  · exact ⟨_,r9⟩
  · exact ⟨_,lK⟩
  · exact ⟨_,oh⟩
  · exact ⟨_,mq⟩
  · exact ⟨_,ug⟩
  · exact ⟨_,ow⟩
def E5 (l:List Int):V:=.aV (l.map fun x=>[gy x])
theorem J2 (l:List Int):Tree (E5 l):=ez _ _ fun x _ v hv=>by simp at hv; subst hv; exact .val _
def xc (g:an):V:=.bk [.agg (aw g),.val (.complex .f64 0 0),gi 0]
theorem MU {l:List Int} {g:an} (h:xb Tryz.prog Au (fun _ _ _=>none) 49 [E5 l]=some (xc g)):dF Tryz.prog 49 [E5 l] (xc g) :=
  tC mixed H9 (Mh _) (by intro v hv; simp at hv; subst hv; exact J2 _) h
abbrev bZ (κ:Type):=List (κ × V × Nat)
def bP {κ:Type} (key:κ→Value) (m:bZ κ):List (V × V × Nat):=m.map fun x=>(.val (key x.1),x.2.1,x.2.2)
def getM {κ:Type} [BEq κ] (m:bZ κ) (k:κ):Option V:=(m.find? fun x=>k == x.1).map (·.2.1)
def bS {κ:Type} [BEq κ] (k:κ) (v:V) (c:Nat):bZ κ→bZ κ
  | []=>[(k,v,c)]
  | x :: r=>if k == x.1 then (k,v,x.2.2) :: r else x :: bS k v c r
structure yi {κ:Type} [BEq κ] (P:Program) (kt:TypeId) (key:κ→Value):Prop where
  ty:∃ d,P.underlying kt=some d∧(∀ a b,Instr.sameNow d (key a) (key b)=some (a == b))∧(∀ a e,bu P (Instr.checkKey e 10000 kt (key a))=some ())
  bits:∀ a b,(a == b)=true→Instr.sameBits 10000 (key b) (key a)=true
theorem se {κ:Type} (key:κ→Value):∀ m:bZ κ,iq (bP key m)=some (m.map fun x=>{ key:=key x.1,val:=.nilFunc,born:=x.2.2 })
  | []=>rfl
  | x :: r=>by
    have:=se key r
    simp only[bP] at this
    simp[bP,iq,cK,this]
def jG {κ:Type} [BEq κ] (k:κ):bZ κ→Option Nat
  | []=>none
  | x :: r=>if k == x.1 then some 0 else (jG k r).map (·+1)
theorem xP {κ:Type} [BEq κ] {key:κ→Value} {d:TypeDesc} (h:∀ a b,Instr.sameNow d (key a) (key b)=some (a == b)) (k:κ):∀ (m:bZ κ) (i:Nat),
    Instr.findNow d (key k) (m.map fun x=>{ key:=key x.1,val:=.nilFunc,born:=x.2.2 }) i=some ((jG k m).map fun j=>(i+j,.nilFunc))
  | [],i=>rfl
  | x :: r,i=>by
    simp only[List.map_cons,Instr.findNow,h,jG]
    cases hk:k == x.1 with
    | true=>simp
    | false =>
      simp only[xP h k r (i+1),Bool.false_eq_true,if_false,Option.map_map]
      congr 2
      funext j
      simp only[Function.comp]
      congr 1
      omega
theorem wj {κ:Type} [BEq κ] {P:Program} {kt:TypeId} {key:κ→Value} (h:yi P kt key) (k:κ) (e:Bool) (m:bZ κ):lx P kt (.val (key k)) e (bP key m)=some (jG k m):=by
  obtain ⟨d,hd,hn,hc⟩:=h.ty
  have hu:bu P (underlying kt)=some d:=dW hd
  simp only[lx,cK,se,bj,hc,Option.bind_some]
  have:bu P (Instr.findKey kt (key k) (m.map fun x=>{ key:=key x.1,val:=.nilFunc,born:=x.2.2 }))=some ((jG k m).map fun j=>(0+j,.nilFunc)):=by
    unfold Instr.findKey
    rw[bj,hu,Option.bind_some,xP hn]
    rfl
  rw[this]
  cases jG k m with
  | none=>rfl
  | some j=>simp
theorem zq {P:Program} {kt:TypeId} {d:TypeDesc} (h:P.underlying kt=some d) (hd:match d with | .int _ | .string | .bool=>True | _=>False) (e:Bool) (n:Nat) (v:Value):bu P (Instr.checkKey e (n+1) kt v)=some ():=by
  unfold Instr.checkKey
  rw[bj,dW h,Option.bind_some]
  cases d <;> first | exact hd.elim | rfl
theorem jH {P:Program} {kt:TypeId} (k:IntKind) (h:P.underlying kt=some (.int k)):yi P kt (Value.int k) where
  ty:=⟨_,h,fun a b=>by simp[Instr.sameNow],fun a e=>zq h trivial e 9999 _⟩
  bits:=fun a b hab=>by
    have:a=b:=by simpa using hab
    subst this
    simp[Instr.sameBits]
theorem s7 {κ:Type} [BEq κ] {key:κ→Value} (k:κ):∀ m:bZ κ,match jG k m with
    | some i=>∃ x,m[i]?=some x∧(k == x.1)=true∧getM m k=some x.2.1∧(bP key m)[i]?=some (.val (key x.1),x.2.1,x.2.2)∧∀ v c,(bP key m).set i (.val (key k),v,x.2.2)=bP key (bS k v c m)∧(bS k v c m).length=m.length
    | none=>getM m k=none∧∀ v c,bP key m ++ [(.val (key k),v,c)]=bP key (bS k v c m)∧(bS k v c m).length=m.length+1
  | []=>⟨rfl,fun v c=>⟨rfl,rfl⟩⟩
  | x :: r=>by
    have ih:=s7 (key:=key) k r
    simp only[jG]
    cases hk:k == x.1 with
    | true=>exact ⟨x,rfl,hk,by simp[getM,hk],rfl,fun v c=>by simp[bS,hk,bP]⟩
    | false =>
      simp only[Bool.false_eq_true,if_false]
      cases hi:jG k r with
      | some i =>
        rw[hi] at ih
        obtain ⟨y,h1,h2,h3,h4,h5⟩:=ih
        refine ⟨y,by simpa using h1,h2,by simpa [getM,hk] using h3,by simpa [bP] using h4,fun v c=>?_⟩
        obtain ⟨g1,g2⟩:=h5 v c
        exact ⟨by simp only[bP] at g1 ⊢; simp[bS,hk,g1],by simp[bS,hk,g2]⟩
      | none =>
        rw[hi] at ih
        refine ⟨by simpa [getM,hk] using ih.1,fun v c=>?_⟩
        obtain ⟨g1,g2⟩:=ih.2 v c
        exact ⟨by simp only[bP] at g1 ⊢; simp[bS,hk,g1],by simp[bS,hk,g2]⟩
section
variable {P:Program} {T:Env} {H:View} {κ:Type} [BEq κ] {key:κ→Value} {kt et t ty:TypeId}
theorem wP {K:V→View→Prop} {w:cw (T,H,K)} {x i:Operand} {z:V} {id c:Nat} {m:bZ κ} {k:κ} (hm:fa P t=some (kt,et)) (hz:zeroV P et=some z) (hk:yi P kt key)
    (hx:ev T x=.mp id) (hi:ev T i=.val (key k)) (hH:H id=.map (bP key m) c) (h:K ((getM m k).getD z) H):nq P (.lookup t x i false) ty T H K w:=by
  intro n _
  have hf:=wj hk k (bP key m).isEmpty m
  have hg:=s7 (key:=key) k m
  refine ⟨(getM m k).getD z,.none,[id],?_,h⟩
  simp only[sI,bU,oper,eY,hm,hz,hx,hi,hH,hf]
  cases hj:jG k m with
  | some j =>
    rw[hj] at hg
    obtain ⟨y,h1,h2,h3,h4,_⟩:=hg
    simp[h4,h3]
  | none =>
    rw[hj] at hg
    simp[hg.1]
theorem Mp {K:V→View→Prop} {w:cw (T,H,K)} {x i:Operand} {z:V} {id c:Nat} {m:bZ κ} {k:κ} (hm:fa P t=some (kt,et)) (hz:zeroV P et=some z) (hk:yi P kt key)
    (hx:ev T x=.mp id) (hi:ev T i=.val (key k)) (hH:H id=.map (bP key m) c) (h:K (.bk [(getM m k).getD z,.val (.bool (getM m k).isSome)]) H):nq P (.lookup t x i true) ty T H K w:=by
  intro n _
  have hf:=wj hk k (bP key m).isEmpty m
  have hg:=s7 (key:=key) k m
  refine ⟨_,.none,[id],?_,h⟩
  simp only[sI,bU,oper,eY,hm,hz,hx,hi,hH,hf]
  cases hj:jG k m with
  | some j =>
    rw[hj] at hg
    obtain ⟨y,h1,h2,h3,h4,_⟩:=hg
    simp[h4,h3]
  | none =>
    rw[hj] at hg
    simp[hg.1]
theorem LR (hk:yi P kt key) (k k':κ) (h:(k == k')=true):sameKey (.val (key k')) (.val (key k))=true:=by
  simp only[sameKey,cK]; exact hk.bits _ _ h
theorem sV {K:V→View→Prop} {w:cw (T,H,K)} {x i y:Operand} {id c:Nat} {m:bZ κ} {k:κ} {v:V} (hm:fa P t=some (kt,et)) (hk:yi P kt key)
    (hx:ev T x=.mp id) (hi:ev T i=.val (key k)) (hy:ev T y=v) (hH:H id=.map (bP key m) c)
    (h:∀ c',K .any (H.set id (.map (bP key (bS k v c m)) c'))):nq P (.mapUpdate t x i y) ty T H K w:=by
  intro n _
  have hf:=wj hk k false m
  have hg:=s7 (key:=key) k m
  cases hj:jG k m with
  | some j =>
    rw[hj] at hg hf
    obtain ⟨z,h1,h2,h3,h4,h5⟩:=hg
    refine ⟨.any,.eH id (.map ((bP key m).set j (.val (key k),v,z.2.2)) c),[id],?_,?_⟩
    · simp only[sI,bU,oper,fi,hm,hx,hi,hy,hH,hf,h4,LR hk k z.1 h2,if_true]
    · rw[(h5 v c).1]; exact h c
  | none =>
    rw[hj] at hg hf
    refine ⟨.any,.eH id (.map (bP key m ++ [(.val (key k),v,c)]) (c+1)),[id],?_,?_⟩
    · simp only[sI,bU,oper,fi,hm,hx,hi,hy,hH,hf]
    · rw[(hg.2 v c).1]; exact h (c+1)
theorem N6 {P:Program} {T:Env} {H:View} {t ty:TypeId} {x i y:Operand} {K:V→View→Prop} {w:cw (T,H,K)} : nq P (.insert t x i y) ty T H K w=nq P (.mapUpdate t x i y) ty T H K w:=propext Iff.rfl
omit [BEq κ] in
theorem Oc {K:V→View→Prop} {w:cw (T,H,K)} {x:Operand} {id c:Nat} {m:bZ κ} (hm:fa P t=some (kt,et)) (hx:ev T x=.mp id) (hH:H id=.map (bP key m) c) (h:K (aj m.length) H) :
    nq P (.call { callee:=.builtin .len,args:=#[x],argTypes:=#[t] }) ty T H K w:=by
  intro n _
  have hu:∃ a b,P.underlying t=some (.map a b):=by
    unfold fa at hm
    split at hm
    · rename_i a b h1; exact ⟨a,b,h1⟩
    · simp at hm
  obtain ⟨a,b,hu⟩:=hu
  refine ⟨aj m.length,.none,[id],?_,h⟩
  have hl:(bP key m).length=m.length:=by simp[bP]
  simp only[sI,bU,oper,List.size_toArray,List.length_cons,List.length_nil,rK,hu,hx,hH,hl]
  simp[hu,hx,hH,hl,rK]
end
theorem yw {κ:Type} [BEq κ] [LawfulBEq κ] (k k':κ) (v:V) (c:Nat):∀ m:bZ κ,getM (bS k v c m) k'=if k' == k then some v else getM m k'
  | []=>by
    by_cases h:k'=k
    · subst h; simp[bS,getM]
    · simp[bS,getM,h]
  | x :: r=>by
    have ih:=yw k k' v c r
    simp only[bS]
    by_cases hk:k=x.1
    · by_cases h:k'=k
      · subst h; simp[hk,getM]
      · have:¬ k'=x.1:=fun e=>h (e.trans hk.symm)
        simp[hk,getM,this]
    · simp only[beq_iff_eq,hk,if_false]
      by_cases h:k'=x.1
      · have:¬ k'=k:=fun e=>hk (e.symm.trans h)
        simp[getM,h]
        subst h
        simp[this]
      · simp only[getM,List.find?_cons,beq_eq_false_iff_ne.2 h] at ih ⊢
        exact ih
def dq {κ β:Type} [BEq κ] (a:List (κ × β)) (k:κ):Option β:=(a.find? fun x=>k == x.1).map (·.2)
def iM {κ β:Type} [BEq κ] (k:κ) (v:β):List (κ × β)→List (κ × β)
  | []=>[(k,v)]
  | x :: r=>if k == x.1 then (k,v) :: r else x :: iM k v r
def lF {κ β:Type} (encV:β→V):List (κ × β)→bZ κ→Prop
  | [],[]=>True
  | x :: a,y :: m=>y.1=x.1∧y.2.1=encV x.2∧lF encV a m
  | _,_=>False
theorem lF.get {κ β:Type} [BEq κ] {encV:β→V} (k:κ):∀ {a:List (κ × β)} {m:bZ κ},lF encV a m→getM m k=(dq a k).map encV
  | [],[],_=>rfl
  | x :: a,y :: m,⟨h1,h2,h3⟩=>by
    have ih:=lF.get k h3
    simp only[getM,dq,List.find?_cons,h1] at ih ⊢
    cases k == x.1 with
    | true=>simp[h2]
    | false=>simpa using ih
theorem lF.put {κ β:Type} [BEq κ] {encV:β→V} (k:κ) (v:β) (c:Nat):∀ {a:List (κ × β)} {m:bZ κ},lF encV a m→lF encV (iM k v a) (bS k (encV v) c m)
  | [],[],_=>⟨rfl,rfl,trivial⟩
  | x :: a,y :: m,⟨h1,h2,h3⟩=>by
    have ih:=lF.put k v c h3
    simp only[iM,bS,h1]
    cases k == x.1 with
    | true=>exact ⟨rfl,rfl,h3⟩
    | false=>exact ⟨h1,h2,ih⟩
theorem lF.len {κ β:Type} {encV:β→V} : ∀ {a:List (κ × β)} {m:bZ κ},lF encV a m→m.length=a.length
  | [],[],_=>rfl
  | x :: a,y :: m,⟨_,_,h3⟩=>by simp[lF.len h3]
theorem Da {κ β:Type} [BEq κ] [LawfulBEq κ] (k k':κ) (v:β):∀ a:List (κ × β),dq (iM k v a) k'=if k' == k then some v else dq a k'
  | []=>by
    by_cases h:k'=k
    · subst h; simp[iM,dq]
    · simp[iM,dq,h]
  | x :: r=>by
    have ih:=Da k k' v r
    simp only[iM]
    by_cases hk:k=x.1
    · by_cases h:k'=k
      · subst h; simp[hk,dq]
      · have:¬ k'=x.1:=fun e=>h (e.trans hk.symm)
        simp[hk,dq,this]
    · simp only[beq_iff_eq,hk,if_false]
      by_cases h:k'=x.1
      · have:¬ k'=k:=fun e=>hk (e.symm.trans h)
        simp[dq,h]
        subst h
        simp[this]
      · simp only[dq,List.find?_cons,beq_eq_false_iff_ne.2 h] at ih ⊢
        exact ih
def Dj (n k:Nat) (J:Nat→Env→View→Prop) (T:Env) (H:View):Prop:=∃ i,i+k=n∧J i T H
theorem bw.up {P:Program} {T:Env} {H:View} {c:SC} {Q:Exit→Env→View→Prop} {v:cw (T,H,Q)} (n:Nat) (J:Nat→Env→View→Prop) (h0:J 0 T H)
    (hs:∀ i k T H,i+k=n→J i T H→wS P c T H fun e T' H'=>xM e (∃ k',k' < k∧Dj n k' J T' H') (Q e T' H')):bw P c T H Q v :=
  bw.intro (fun k T H=>Dj n k J T H) n ⟨0,by omega,h0⟩ fun k T H ⟨i,hk,hj⟩=>hs i k T H hk hj
theorem bt {n i k:Nat} {J:Nat→Env→View→Prop} {T:Env} {H:View} (hk:i+k=n) (hlt:i < n) (hJ:J (i+1) T H):∃ k',k' < k∧Dj n k' J T H:=⟨k - 1,by omega,i+1,by omega,hJ⟩
end Gv
