/-
  Part 8 of the proof: what the machine does and what the functions answer.
  Conditions: those that each lemma names.
-/
import Derived.Test.YtihmlbdfcmfbdaaGreatSGzA8G
set_option linter.unusedSimpArgs false
set_option linter.unusedVariables false
set_option maxRecDepth 100000
namespace Gv
open Go Go.Proofs
def m6:DF:=⟨.seq (ak [((some 2),.op (.alloc [(.emp 1),(.emp 1),(.emp 1),(.val (.int .i64 0))])),((some 3),.op (.bj (.val (.val (.complex .f64 0 0))))),aF 4 0]) <|
  .seq (ak [aa 9 0,aG 10 94 [9],aa 8 10,ct 11 0 8,ct 12 1 8,ct 13 2 8,((some 5),.op (.alloc [(.emp 1),(.emp 1)])),(none,.op (.store 2 (.tmp 5) (.tmp 11))),aa 6 12,aa 7 13]) <|
  .seq (.seq (ak [aa 14 7,ax 15 .neq 14 0]) <|
  .cond (.tmp 15) (.seq (ak [((some 16),.op (.build [(.emp 1),(.emp 1),(.emp 1),(.val (.int .i64 0))] [])),aa 17 6,aa 18 7,(none,.op (.store 4 (.tmp 2) (.tmp 16))),aa 3 17,aa 4 18]) <|
  .ret) (.skip)) <|
  .seq (ak [aH 19 2 5,aG 20 95 [19],ct 21 0 20,ct 22 1 20,ct 23 2 20,(none,.op (.store 4 (.tmp 2) (.tmp 21))),aa 3 22,aa 4 23]) <|
  .ret,
  [.cell 2 (some 4),.tmp 3,.tmp 4],24⟩
theorem rG:aP Tryz.prog 49 []=some m6:=by kernel_rfl
def lV:DF:=⟨.seq (ak [((some 2),.op (.alloc [(.emp 1),(.emp 1)])),((some 3),.op (.bj (.val (.val (.complex .f64 0 0))))),aF 4 0]) <|
  .seq (ak [aa 9 0,aG 10 134 [9],aa 8 10,ct 11 0 8,ct 12 1 8,ct 13 2 8,aa 5 11,aa 6 12,aa 7 13]) <|
  .seq (.seq (ak [aa 14 7,ax 15 .neq 14 0]) <|
  .cond (.tmp 15) (.seq (ak [((some 16),.op (.build [(.emp 1),(.emp 1)] [])),aa 17 6,aa 18 7,(none,.op (.store 2 (.tmp 2) (.tmp 16))),aa 3 17,aa 4 18]) <|
  .ret) (.skip)) <|
  .seq (ak [aa 19 5,aa 20 6,aG 21 135 [19,20],ct 22 0 21,ct 23 1 21,ct 24 2 21,(none,.op (.store 2 (.tmp 2) (.tmp 22))),aa 3 23,aa 4 24]) <|
  .ret,
  [.cell 2 (some 2),.tmp 3,.tmp 4],25⟩
theorem qR:aP Tryz.prog 94 []=some lV:=by kernel_rfl
def qI:DC :=
  .seq (.seq (.region [] [⟨none,[aa 16 6,aa 17 0,aM 18 17,aO 19 .lss 16 18,aa 20 19]⟩,⟨(some (20,true)),[aa 21 7,ax 22 .lss 21 2]⟩,⟨none,[bB 23 20 22]⟩]) <|
  .cond (.tmp 23) (.skip) (.exit 0)) <|
  .block 1 (.seq (ak [aa 25 0,aa 26 6,aG 27 177 [25,26],aa 24 27,ct 28 0 24,ct 29 1 24,aa 8 28,aa 9 29]) <|
  .seq (.seq (ak [aa 30 8,ax 31 .lss 30 0]) <|
  .cond (.tmp 31) (.seq (ak [aa 32 0,aa 33 6,aG 34 178 [32,33],((some 2),.op (.bj (.val (.emp 1)))),aa 3 34,aF 4 4]) <|
  .ret) (.skip)) <|
  .seq (.seq (ak [aa 35 9]) <|
  .cond (.tmp 35) (.seq (ak [aa 36 8,aa 6 36]) <|
  .exit 1) (.skip)) <|
  .seq (.region [] [⟨none,[aa 38 0,aa 39 6,aG 40 179 [38,39],aa 37 40,ct 41 0 37,ct 42 1 37,ct 43 2 37,((some 10),.op (.alloc [(.val (.int .i64 0)),(.val (.string ⟨#[]⟩)),(.val (.complex .f64 0 0))])),(none,.op (.store 3 (.tmp 10) (.tmp 41))),aa 11 42,aa 12 43]⟩]) <|
  .seq (.seq (ak [aa 44 12,ax 45 .neq 44 0]) <|
  .cond (.tmp 45) (.seq (ak [ao 46 2 10,aq 47 46,aa 48 12,((some 2),.op (.bj (.val (.emp 1)))),aa 3 47,aa 4 48]) <|
  .ret) (.skip)) <|
  .seq (.seq (ak [ao 49 0 10,aq 50 49,ax 51 .eql 50 9]) <|
  .cond (.tmp 51) (ak [aa 52 7,ax 53 .add 52 1,aa 7 53]) (.skip)) <|
  .region [] [⟨none,[aa 54 5,aH 55 3 10,((some 56),.op (.bD 1 3 [(.val (.int .i64 0)),(.val (.string ⟨#[]⟩)),(.val (.complex .f64 0 0))] [(0,(.tmp 55))])),((some 57),.op (.app 3 40 (.tmp 54) (.tmp 56))),aa 58 11,aa 5 57,aa 6 58]⟩])
def lM:DF:=⟨.seq (ak [((some 2),.op (.bj (.val (.emp 1)))),((some 3),.op (.bj (.val (.val (.complex .f64 0 0))))),aF 4 0]) <|
  .seq (.seq (ak [aa 13 0,aM 14 13,ax 15 .gtr 14 4000]) <|
  .cond (.tmp 15) (.seq (ak [((some 2),.op (.bj (.val (.emp 1)))),((some 3),.op (.bj (.val (.val (.complex .f64 0 0))))),aF 4 5]) <|
  .ret) (.skip)) <|
  .seq (ak [((some 5),.op (.bj (.val (.emp 1))))]) <|
  .seq (ak [aF 6 0,aF 7 0]) <|
  .seq (.block 0 (.loop qI)) <|
  .seq (ak [aa 59 5,aa 60 0,aa 61 0,aM 62 61,aG 63 178 [60,62],aa 2 59,aa 3 63,aF 4 0]) <|
  .ret,
  [.tmp 2,.tmp 3,.tmp 4],64⟩
theorem pW:aP Tryz.prog 134 []=some lM:=by kernel_rfl
def nt:DF:=⟨.seq (ak [aF 4 0,aV 5 false]) <|
  .seq (.block 0 (.seq (.region [] [⟨none,[aa 7 0,aa 8 1,aZ 9 1 7 8,aq 10 9,((some 11),.op (.arith .eql (.tmp 10) (.val (.val (.int .u8 32))))),aa 12 11]⟩,⟨(some (12,false)),[aa 13 0,aa 14 1,aZ 15 1 13 14,aq 16 15,((some 17),.op (.arith .eql (.tmp 16) (.val (.val (.int .u8 9)))))]⟩,⟨none,[bF 18 12 17,aa 19 18]⟩,⟨(some (19,false)),[aa 20 0,aa 21 1,aZ 22 1 20 21,aq 23 22,((some 24),.op (.arith .eql (.tmp 23) (.val (.val (.int .u8 10)))))]⟩,⟨none,[bF 25 19 24,aa 26 25]⟩,⟨(some (26,false)),[aa 27 0,aa 28 1,aZ 29 1 27 28,aq 30 29,((some 31),.op (.arith .eql (.tmp 30) (.val (.val (.int .u8 13)))))]⟩,⟨none,[bF 32 26 31,aa 6 32]⟩]) <|
  .cond (.tmp 6) (.seq (ak [aa 33 1,ax 34 .add 33 1,aa 4 34,aV 5 true]) <|
  .ret) (.seq (.region [] [⟨none,[aa 36 0,aa 37 1,cZ 38 212 [(.tmp 36),(.tmp 37),(.val (.val (.string ⟨#[47,42]⟩)))],aa 35 38]⟩]) <|
  .cond (.tmp 35) (.seq (.region [] [⟨none,[aa 39 0,aa 40 1,ax 41 .add 40 2,cZ 42 213 [(.tmp 39),(.tmp 41),(.val (.val (.string ⟨#[42,47]⟩)))],aa 4 42,aV 5 true]⟩]) <|
  .ret) (.seq (.region [] [⟨none,[aa 44 0,aa 45 1,cZ 46 212 [(.tmp 44),(.tmp 45),(.val (.val (.string ⟨#[47,47]⟩)))],aa 43 46]⟩]) <|
  .cond (.tmp 43) (.seq (ak [aa 47 0,aa 48 1,aG 49 214 [47,48],aa 4 49,aV 5 true]) <|
  .ret) (.seq (.region [] [⟨none,[aa 51 0,aa 52 1,cZ 53 212 [(.tmp 51),(.tmp 52),(.val (.val (.string ⟨#[37,123]⟩)))],aa 50 53]⟩]) <|
  .cond (.tmp 50) (.seq (.region [] [⟨none,[aa 54 0,aa 55 1,ax 56 .add 55 2,cZ 57 213 [(.tmp 54),(.tmp 56),(.val (.val (.string ⟨#[37,125]⟩)))],aa 4 57,aV 5 true]⟩]) <|
  .ret) (.seq (ak [aa 59 0,aa 60 1,aZ 61 1 59 60,aq 62 61,((some 63),.op (.arith .eql (.tmp 62) (.val (.val (.int .u8 60))))),aa 58 63]) <|
  .cond (.tmp 58) (.seq (.region [] [⟨none,[aa 64 0,aa 65 0,aa 66 1,aG 67 214 [65,66],((some 68),.op (.slice 1 (.tmp 64) none (some (.tmp 67)))),aa 69 1,ax 70 .add 69 1,cZ 71 213 [(.tmp 68),(.tmp 70),(.val (.val (.string ⟨#[62]⟩)))],aa 4 71,aV 5 true]⟩]) <|
  .ret) (.seq (ak [aa 73 0,aa 74 1,aZ 75 1 73 74,aq 76 75,((some 77),.op (.arith .eql (.tmp 76) (.val (.val (.int .u8 123))))),aa 72 77]) <|
  .cond (.tmp 72) (.seq (ak [aa 78 0,aa 79 1,aG 80 215 [78,79],aa 4 80,aV 5 true]) <|
  .ret) (.skip)))))))) <|
  .seq (ak [aa 81 1,aa 4 81,aV 5 false]) <|
  .ret,
  [.tmp 4,.tmp 5],82⟩
theorem rh:aP Tryz.prog 177 []=some nt:=by kernel_rfl
def oC:DF:=⟨.seq (ak [aV 6 false]) <|
  .seq (.region [] [⟨none,[aa 7 1,aa 8 2,((some 9),.op (.gG (.tmp 8))),aO 10 .add 7 9,aa 11 0,aM 12 11,aO 13 .leq 10 12,aa 14 13]⟩,⟨(some (14,true)),[aa 15 0,aa 16 1,aa 17 1,aa 18 2,((some 19),.op (.gG (.tmp 18))),aO 20 .add 17 19,((some 21),.op (.slice 1 (.tmp 15) (some (.tmp 16)) (some (.tmp 20)))),((some 22),.op (.old (.convert 91 9 (.tmp 21)) 9)),aa 23 2,((some 24),.op (.iO .eql (.tmp 22) (.tmp 23)))]⟩,⟨none,[bB 25 14 24,aa 6 25]⟩]) <|
  .ret,
  [.tmp 6],26⟩
theorem sT:aP Tryz.prog 212 []=some oC:=by kernel_rfl
def so:DC :=
  .seq (.seq (ak [aa 7 1,aa 8 0,aM 9 8,aO 10 .lss 7 9]) <|
  .cond (.tmp 10) (.skip) (.exit 0)) <|
  .block 1 (.seq (.seq (ak [aa 11 0,aa 12 1,aa 13 2,aG 14 212 [11,12,13]]) <|
  .cond (.tmp 14) (.seq (ak [aa 15 1,aa 16 2,((some 17),.op (.gG (.tmp 16))),aO 18 .add 15 17,aa 6 18]) <|
  .ret) (.skip)) <|
  ak [aa 19 1,ax 20 .add 19 1,aa 1 20])
def nK:DF:=⟨.seq (ak [aF 6 0]) <|
  .seq (.block 0 (.loop so)) <|
  .seq (ak [aF 6 (-1)]) <|
  .ret,
  [.tmp 6],21⟩
theorem ry:aP Tryz.prog 213 []=some nK:=by kernel_rfl
def tv:DC :=
  .seq (.seq (.region [] [⟨none,[aa 5 1,aa 6 0,aM 7 6,aO 8 .lss 5 7,aa 9 8]⟩,⟨(some (9,true)),[aa 10 0,aa 11 1,aZ 12 1 10 11,aq 13 12,((some 14),.op (.arith .neq (.tmp 13) (.val (.val (.int .u8 10)))))]⟩,⟨none,[bB 15 9 14]⟩]) <|
  .cond (.tmp 15) (.skip) (.exit 0)) <|
  .block 1 (ak [aa 16 1,ax 17 .add 16 1,aa 1 17])
def nS:DF:=⟨.seq (ak [aF 4 0]) <|
  .seq (.block 0 (.loop tv)) <|
  .seq (ak [aa 18 1,aa 4 18]) <|
  .ret,
  [.tmp 4],19⟩
theorem r6:aP Tryz.prog 214 []=some nS:=by kernel_rfl
def qL:DC :=
  .seq (.seq (.region [] [⟨none,[aa 6 1,ax 7 .geq 6 0,aa 8 7]⟩,⟨(some (8,true)),[aa 9 1,aa 10 0,aM 11 10,aO 12 .lss 9 11]⟩,⟨none,[bB 13 8 12]⟩]) <|
  .cond (.tmp 13) (.skip) (.exit 0)) <|
  .block 1 (.seq (.seq (ak [aa 14 0,aa 15 1,aZ 16 1 14 15,aq 17 16]) <|
  .block 2 (.seq (ak [((some 21),.op (.arith .eql (.tmp 17) (.val (.val (.int .u8 123))))),aa 20 21]) <|
  .cond (.tmp 20) (.seq (ak [aa 22 5,ax 23 .add 22 1,aa 5 23]) <|
  ak [aa 24 1,ax 25 .add 24 1,aa 1 25]) (.seq (ak [((some 27),.op (.arith .eql (.tmp 17) (.val (.val (.int .u8 125))))),aa 26 27]) <|
  .cond (.tmp 26) (.seq (ak [aa 28 5,ax 29 .sub 28 1,aa 5 29]) <|
  ak [aa 30 1,ax 31 .add 30 1,aa 1 31]) (.seq (.seq (ak [((some 33),.op (.arith .eql (.tmp 17) (.val (.val (.int .u8 39))))),aa 32 33]) <|
  .cond (.tmp 32) (.skip) (ak [((some 34),.op (.arith .eql (.tmp 17) (.val (.val (.int .u8 34))))),aa 32 34])) <|
  .cond (.tmp 32) (ak [aa 35 0,aa 36 1,aG 37 232 [35,36],aa 1 37]) (ak [aa 18 1,ax 19 .add 18 1,aa 1 19]))))) <|
  .seq (.region [] [⟨none,[aa 38 5,ax 39 .eql 38 0,aa 40 39]⟩,⟨(some (40,true)),[aa 41 1,ax 42 .geq 41 0]⟩,⟨none,[bB 43 40 42]⟩]) <|
  .cond (.tmp 43) (.seq (ak [aa 44 1,aa 4 44]) <|
  .ret) (.skip))
def kZ:DF:=⟨.seq (ak [aF 4 0]) <|
  .seq (ak [aF 5 0]) <|
  .seq (.block 0 (.loop qL)) <|
  .seq (ak [aF 4 (-1)]) <|
  .ret,
  [.tmp 4],45⟩
theorem pT:aP Tryz.prog 215 []=some kZ:=by kernel_rfl
def qK:DC :=
  .seq (.seq (ak [aa 12 1,aa 13 0,aM 14 13,aO 15 .lss 12 14]) <|
  .cond (.tmp 15) (.skip) (.exit 0)) <|
  .block 1 (.seq (.seq (ak [aa 16 0,aa 17 1,aZ 18 1 16 17,aq 19 18,aa 20 5,aO 21 .eql 19 20]) <|
  .cond (.tmp 21) (.seq (ak [aa 22 1,ax 23 .add 22 1,aa 4 23]) <|
  .ret) (.skip)) <|
  .seq (.seq (ak [aa 24 0,aa 25 1,aZ 26 1 24 25,aq 27 26,((some 28),.op (.arith .eql (.tmp 27) (.val (.val (.int .u8 92)))))]) <|
  .cond (.tmp 28) (ak [aa 29 1,ax 30 .add 29 1,aa 1 30]) (.skip)) <|
  ak [aa 31 1,ax 32 .add 31 1,aa 1 32])
def lB:DF:=⟨.seq (ak [aF 4 0]) <|
  .seq (ak [aa 6 0,aa 7 1,aZ 8 1 6 7,aq 9 8,aa 5 9]) <|
  .seq (ak [aa 10 1,ax 11 .add 10 1,aa 1 11]) <|
  .seq (.block 0 (.loop qK)) <|
  .seq (ak [aF 4 (-1)]) <|
  .ret,
  [.tmp 4],33⟩
theorem pV:aP Tryz.prog 232 []=some lB:=by kernel_rfl
def uX:DC :=
  .seq (.seq (ak [aa 16 7,aa 17 1,aO 18 .lss 16 17]) <|
  .cond (.tmp 18) (.skip) (.exit 0)) <|
  .seq (.block 1 (.seq (ak [aa 21 6,ax 22 .add 21 1,aa 6 22]) <|
  .seq (ak [aa 23 0,aa 24 7,aZ 25 1 23 24,aq 26 25,((some 27),.op (.arith .eql (.tmp 26) (.val (.val (.int .u8 10)))))]) <|
  .cond (.tmp 27) (ak [aa 28 5,ax 29 .add 28 1,aa 5 29,aF 6 1]) (.skip))) <|
  ak [aa 19 7,ax 20 .add 19 1,aa 7 20]
def pE:DF:=⟨.seq (ak [((some 4),.op (.bj (.val (.val (.complex .f64 0 0)))))]) <|
  .seq (.seq (.region [] [⟨none,[aa 8 1,ax 9 .lss 8 0,aa 10 9]⟩,⟨(some (10,false)),[aa 11 1,aa 12 0,aM 13 12,aO 14 .gtr 11 13]⟩,⟨none,[bF 15 10 14]⟩]) <|
  .cond (.tmp 15) (.seq (ak [((some 4),.op (.bj (.val (.val (.complex .f64 0 0)))))]) <|
  .ret) (.skip)) <|
  .seq (ak [aF 5 1,aF 6 1]) <|
  .seq (.seq (ak [aF 7 0]) <|
  .block 0 (.loop uX)) <|
  .seq (ak [aa 30 5,aa 31 6,aG 32 216 [30,31],aa 4 32]) <|
  .ret,
  [.tmp 4],33⟩
theorem tW:aP Tryz.prog 178 []=some pE:=by kernel_rfl
def pB:DF:=⟨.seq (ak [((some 4),.op (.bj (.val (.val (.complex .f64 0 0)))))]) <|
  .seq (.seq (.region [] [⟨none,[aa 5 0,ax 6 .lss 5 1,aa 7 6]⟩,⟨(some (7,false)),[aa 8 0,ax 9 .gtr 8 1073741824]⟩,⟨none,[bF 10 7 9,aa 11 10]⟩,⟨(some (11,false)),[aa 12 1,ax 13 .lss 12 1]⟩,⟨none,[bF 14 11 13,aa 15 14]⟩,⟨(some (15,false)),[aa 16 1,ax 17 .gtr 16 1073741824]⟩,⟨none,[bF 18 15 17]⟩]) <|
  .cond (.tmp 18) (.seq (ak [((some 4),.op (.bj (.val (.val (.complex .f64 0 0)))))]) <|
  .ret) (.skip)) <|
  .seq (ak [aa 19 0,((some 20),.op (.old (.convert 3 275 (.tmp 19)) 275)),aa 21 1,((some 22),.op (.old (.convert 3 275 (.tmp 21)) 275)),((some 23),.op (.old (.call { callee:=.builtin .complex,args:=#[(.tmp 20),(.tmp 22)],argTypes:=#[275,275] }) 88)),aa 4 23]) <|
  .ret,
  [.tmp 4],24⟩
theorem ub:aP Tryz.prog 216 []=some pB:=by kernel_rfl
def tZ:DC :=
  .seq (.seq (.region [] [⟨none,[aa 27 9,aa 28 0,aM 29 28,aO 30 .lss 27 29,aa 31 30]⟩,⟨(some (31,true)),[aa 32 0,aa 33 9,aZ 34 1 32 33,aq 35 34,aG 36 194 [35]]⟩,⟨none,[bB 37 31 36]⟩]) <|
  .cond (.tmp 37) (.skip) (.exit 1)) <|
  .block 2 (ak [aa 38 9,ax 39 .add 38 1,aa 9 39])
def ud:DC :=
  .seq (.seq (ak [aa 58 10,ax 59 .leq 58 4]) <|
  .cond (.tmp 59) (.skip) (.exit 3)) <|
  .seq (.block 4 (.seq (.region [] [⟨none,[aa 62 1,aa 63 10,aO 64 .add 62 63,aa 65 0,aM 66 65,aO 67 .leq 64 66,aa 68 67]⟩,⟨(some (68,true)),[aa 69 0,aa 70 1,aa 71 1,aa 72 10,aO 73 .add 71 72,((some 74),.op (.slice 1 (.tmp 69) (some (.tmp 70)) (some (.tmp 73)))),((some 75),.op (.old (.convert 91 9 (.tmp 74)) 9)),aG 76 192 [75]]⟩,⟨none,[bB 77 68 76]⟩]) <|
  .cond (.tmp 77) (.seq (.region [(6,8)] [⟨none,[aa 78 0,aa 79 1,aa 80 1,aa 81 10,aO 82 .add 80 81,((some 83),.op (.slice 1 (.tmp 78) (some (.tmp 79)) (some (.tmp 82)))),((some 84),.op (.old (.convert 91 9 (.tmp 83)) 9)),ao 85 0 7,(none,.op (.store 1 (.tmp 85) (.val (.val (.int .i64 2))))),ao 86 1 7,(none,.op (.store 1 (.tmp 86) (.tmp 84)))]⟩]) <|
  .seq (ak [aH 87 3 7,aa 88 1,aa 89 10,aO 90 .add 88 89,(none,.op (.store 3 (.tmp 4) (.tmp 87))),aa 5 90,aF 6 0]) <|
  .ret) (.skip))) <|
  ak [aa 60 10,ax 61 .add 60 1,aa 10 61]
def uc:DC :=
  .seq (.seq (.region [] [⟨none,[aa 108 9,aa 109 0,aM 110 109,aO 111 .lss 108 110,aa 112 111]⟩,⟨(some (112,true)),[aa 113 0,aa 114 9,aZ 115 1 113 114,aq 116 115,((some 117),.op (.arith .geq (.tmp 116) (.val (.val (.int .u8 97)))))]⟩,⟨none,[bB 118 112 117,aa 119 118]⟩,⟨(some (119,true)),[aa 120 0,aa 121 9,aZ 122 1 120 121,aq 123 122,((some 124),.op (.arith .leq (.tmp 123) (.val (.val (.int .u8 122)))))]⟩,⟨none,[bB 125 119 124]⟩]) <|
  .cond (.tmp 125) (.skip) (.exit 5)) <|
  .block 6 (ak [aa 126 9,ax 127 .add 126 1,aa 9 127])
def oz:DF:=⟨.seq (.region [] [⟨none,[((some 4),.op (.alloc [(.val (.int .i64 0)),(.val (.string ⟨#[]⟩)),(.val (.complex .f64 0 0))])),aF 5 0,aF 6 0]⟩]) <|
  .seq (.region [] [⟨none,[aa 11 0,aa 12 1,aG 13 178 [11,12],((some 14),.op (.build [(.val (.int .i64 0)),(.val (.string ⟨#[]⟩)),(.val (.complex .f64 0 0))] [(2,1,(.tmp 13))])),((some 7),.op (.alloc [(.val (.int .i64 0)),(.val (.string ⟨#[]⟩)),(.val (.complex .f64 0 0))])),(none,.op (.store 3 (.tmp 7) (.tmp 14)))]⟩]) <|
  .seq (ak [aa 15 0,aa 16 1,aZ 17 1 15 16,aq 18 17,aa 8 18]) <|
  .seq (ak [aa 19 1,ax 20 .add 19 1,aa 9 20]) <|
  .seq (.block 0 (.seq (ak [aa 25 8,aG 26 193 [25],aa 24 26]) <|
  .cond (.tmp 24) (.seq (.block 1 (.loop tZ)) <|
  .seq (.seq (ak [aa 40 9,aa 41 1,aO 42 .sub 40 41,ax 43 .gtr 42 20]) <|
  .cond (.tmp 43) (.seq (ak [aH 44 3 7,aa 45 9,(none,.op (.store 3 (.tmp 4) (.tmp 44))),aa 5 45,aF 6 5]) <|
  .ret) (.skip)) <|
  .seq (.region [(4,6)] [⟨none,[aa 46 0,aa 47 1,aa 48 9,((some 49),.op (.slice 1 (.tmp 46) (some (.tmp 47)) (some (.tmp 48)))),((some 50),.op (.old (.convert 91 9 (.tmp 49)) 9)),ao 51 0 7,(none,.op (.store 1 (.tmp 51) (.val (.val (.int .i64 1))))),ao 52 1 7,(none,.op (.store 1 (.tmp 52) (.tmp 50)))]⟩]) <|
  .seq (ak [aH 53 3 7,aa 54 9,(none,.op (.store 3 (.tmp 4) (.tmp 53))),aa 5 54,aF 6 0]) <|
  .ret) (.seq (ak [aa 56 8,((some 57),.op (.arith .eql (.tmp 56) (.val (.val (.int .u8 39))))),aa 55 57]) <|
  .cond (.tmp 55) (.seq (.seq (ak [aF 10 3]) <|
  .block 3 (.loop ud)) <|
  .seq (.region [(0,5)] [⟨none,[aH 91 3 7,aa 92 9,aa 93 0,aa 94 1,((some 95),.op (.slice 1 (.tmp 93) (some (.tmp 94)) none)),aG 96 217 [95],(none,.op (.store 3 (.tmp 4) (.tmp 91))),aa 5 92,aa 6 96]⟩]) <|
  .ret) (.seq (.region [] [⟨none,[aa 98 0,aa 99 1,cZ 100 212 [(.tmp 98),(.tmp 99),(.val (.val (.string ⟨#[37,37]⟩)))],aa 97 100]⟩]) <|
  .cond (.tmp 97) (.seq (ak [ao 101 0 7,(none,.op (.store 1 (.tmp 101) (.val (.val (.int .i64 9)))))]) <|
  .seq (ak [aH 102 3 7,aa 103 1,ax 104 .add 103 2,(none,.op (.store 3 (.tmp 4) (.tmp 102))),aa 5 104,aF 6 0]) <|
  .ret) (.seq (ak [aa 106 8,((some 107),.op (.arith .eql (.tmp 106) (.val (.val (.int .u8 37))))),aa 105 107]) <|
  .cond (.tmp 105) (.seq (.block 5 (.loop uc)) <|
  ak [aa 128 0,aa 129 1,ax 130 .add 129 1,aa 131 9,((some 132),.op (.slice 1 (.tmp 128) (some (.tmp 130)) (some (.tmp 131)))),((some 133),.op (.old (.convert 91 9 (.tmp 132)) 9)),aG 134 218 [133],ao 135 0 7,(none,.op (.store 1 (.tmp 135) (.tmp 134)))]) (ak [aa 21 8,aG 22 219 [21],ao 23 0 7,(none,.op (.store 1 (.tmp 23) (.tmp 22)))])))))) <|
  .seq (.seq (ak [ao 136 0 7,aq 137 136,ax 138 .eql 137 0]) <|
  .cond (.tmp 138) (.seq (ak [aH 139 3 7,aa 140 9,(none,.op (.store 3 (.tmp 4) (.tmp 139))),aa 5 140,aF 6 3]) <|
  .ret) (.skip)) <|
  .seq (ak [aH 141 3 7,aa 142 9,(none,.op (.store 3 (.tmp 4) (.tmp 141))),aa 5 142,aF 6 0]) <|
  .ret,
  [.cell 4 (some 3),.tmp 5,.tmp 6],143⟩
theorem sY:aP Tryz.prog 179 []=some oz:=by kernel_rfl
def l9:DF:=⟨.seq (ak [aV 2 false]) <|
  .seq (.region [] [⟨none,[aa 3 0,aG 4 193 [3],aa 5 4]⟩,⟨(some (5,false)),[aa 6 0,((some 7),.op (.arith .geq (.tmp 6) (.val (.val (.int .u8 48))))),aa 8 7]⟩,⟨(some (8,true)),[aa 9 0,((some 10),.op (.arith .leq (.tmp 9) (.val (.val (.int .u8 57)))))]⟩,⟨(some (5,false)),[bB 11 8 10]⟩,⟨none,[bF 12 5 11,aa 13 12]⟩,⟨(some (13,false)),[aa 14 0,((some 15),.op (.arith .eql (.tmp 14) (.val (.val (.int .u8 46)))))]⟩,⟨none,[bF 16 13 15,aa 2 16]⟩]) <|
  .ret,
  [.tmp 2],17⟩
theorem qQ:aP Tryz.prog 194 []=some l9:=by kernel_rfl
def mh:DF:=⟨.seq (ak [aV 2 false]) <|
  .seq (.region [] [⟨none,[aa 3 0,((some 4),.op (.arith .geq (.tmp 3) (.val (.val (.int .u8 97))))),aa 5 4]⟩,⟨(some (5,true)),[aa 6 0,((some 7),.op (.arith .leq (.tmp 6) (.val (.val (.int .u8 122)))))]⟩,⟨none,[bB 8 5 7,aa 9 8]⟩,⟨(some (9,false)),[aa 10 0,((some 11),.op (.arith .geq (.tmp 10) (.val (.val (.int .u8 65))))),aa 12 11]⟩,⟨(some (12,true)),[aa 13 0,((some 14),.op (.arith .leq (.tmp 13) (.val (.val (.int .u8 90)))))]⟩,⟨(some (9,false)),[bB 15 12 14]⟩,⟨none,[bF 16 9 15,aa 17 16]⟩,⟨(some (17,false)),[aa 18 0,((some 19),.op (.arith .eql (.tmp 18) (.val (.val (.int .u8 95)))))]⟩,⟨none,[bF 20 17 19,aa 2 20]⟩]) <|
  .ret,
  [.tmp 2],21⟩
theorem qP:aP Tryz.prog 193 []=some mh:=by kernel_rfl
def kU:DF:=⟨.seq (ak [aV 2 false]) <|
  .seq (.seq (ak [aa 3 0,((some 4),.op (.gG (.tmp 3))),ax 5 .eql 4 3]) <|
  .cond (.tmp 5) (.seq (.region [] [⟨none,[aa 6 0,((some 7),.op (.c7 (.tmp 6) (.val (.val (.int .i64 0))))),((some 8),.op (.arith .eql (.tmp 7) (.val (.val (.int .u8 39))))),aa 9 8]⟩,⟨(some (9,true)),[aa 10 0,((some 11),.op (.c7 (.tmp 10) (.val (.val (.int .i64 2))))),((some 12),.op (.arith .eql (.tmp 11) (.val (.val (.int .u8 39)))))]⟩,⟨none,[bB 13 9 12,aa 14 13]⟩,⟨(some (14,true)),[aa 15 0,((some 16),.op (.c7 (.tmp 15) (.val (.val (.int .i64 1))))),((some 17),.op (.arith .geq (.tmp 16) (.val (.val (.int .u8 32)))))]⟩,⟨none,[bB 18 14 17,aa 19 18]⟩,⟨(some (19,true)),[aa 20 0,((some 21),.op (.c7 (.tmp 20) (.val (.val (.int .i64 1))))),((some 22),.op (.arith .leq (.tmp 21) (.val (.val (.int .u8 126)))))]⟩,⟨none,[bB 23 19 22,aa 24 23]⟩,⟨(some (24,true)),[aa 25 0,((some 26),.op (.c7 (.tmp 25) (.val (.val (.int .i64 1))))),((some 27),.op (.arith .neq (.tmp 26) (.val (.val (.int .u8 39)))))]⟩,⟨none,[bB 28 24 27,aa 29 28]⟩,⟨(some (29,true)),[aa 30 0,((some 31),.op (.c7 (.tmp 30) (.val (.val (.int .i64 1))))),((some 32),.op (.arith .neq (.tmp 31) (.val (.val (.int .u8 92)))))]⟩,⟨none,[bB 33 29 32,aa 2 33]⟩]) <|
  .ret) (.skip)) <|
  .seq (.region [] [⟨none,[aa 34 0,((some 35),.op (.gG (.tmp 34))),ax 36 .eql 35 4,aa 37 36]⟩,⟨(some (37,true)),[aa 38 0,((some 39),.op (.c7 (.tmp 38) (.val (.val (.int .i64 0))))),((some 40),.op (.arith .eql (.tmp 39) (.val (.val (.int .u8 39)))))]⟩,⟨none,[bB 41 37 40,aa 42 41]⟩,⟨(some (42,true)),[aa 43 0,((some 44),.op (.c7 (.tmp 43) (.val (.val (.int .i64 3))))),((some 45),.op (.arith .eql (.tmp 44) (.val (.val (.int .u8 39)))))]⟩,⟨none,[bB 46 42 45,aa 47 46]⟩,⟨(some (47,true)),[aa 48 0,((some 49),.op (.c7 (.tmp 48) (.val (.val (.int .i64 1))))),((some 50),.op (.arith .eql (.tmp 49) (.val (.val (.int .u8 92)))))]⟩,⟨none,[bB 51 47 50,aa 52 51]⟩,⟨(some (52,true)),[aa 53 0,((some 54),.op (.c7 (.tmp 53) (.val (.val (.int .i64 2))))),((some 55),.op (.arith .eql (.tmp 54) (.val (.val (.int .u8 110))))),aa 56 55]⟩,⟨(some (56,false)),[aa 57 0,((some 58),.op (.c7 (.tmp 57) (.val (.val (.int .i64 2))))),((some 59),.op (.arith .eql (.tmp 58) (.val (.val (.int .u8 116)))))]⟩,⟨(some (52,true)),[bF 60 56 59,aa 61 60]⟩,⟨(some (61,false)),[aa 62 0,((some 63),.op (.c7 (.tmp 62) (.val (.val (.int .i64 2))))),((some 64),.op (.arith .eql (.tmp 63) (.val (.val (.int .u8 92)))))]⟩,⟨(some (52,true)),[bF 65 61 64,aa 66 65]⟩,⟨(some (66,false)),[aa 67 0,((some 68),.op (.c7 (.tmp 67) (.val (.val (.int .i64 2))))),((some 69),.op (.arith .eql (.tmp 68) (.val (.val (.int .u8 39)))))]⟩,⟨(some (52,true)),[bF 70 66 69]⟩,⟨none,[bB 71 52 70,aa 2 71]⟩]) <|
  .ret,
  [.tmp 2],72⟩
theorem pO:aP Tryz.prog 192 []=some kU:=by kernel_rfl
def pU:DC :=
  .seq (.seq (ak [aa 6 4,aa 7 3,aM 8 7,aO 9 .lss 6 8]) <|
  .cond (.tmp 9) (.skip) (.exit 0)) <|
  .seq (.block 1 (.seq (.region [(5,9)] [⟨none,[aa 12 0,aM 13 12,ax 14 .lss 13 4,aa 15 14]⟩,⟨(some (15,true)),[aa 16 0,((some 17),.op (.old (.convert 91 9 (.tmp 16)) 9)),aa 18 3,aa 19 4,aZ 20 1 18 19,aq 21 20,((some 22),.op (.iO .add (.tmp 17) (.tmp 21))),aG 23 192 [22]]⟩,⟨none,[bB 24 15 23]⟩]) <|
  .cond (.tmp 24) (.seq (ak [aF 2 4]) <|
  .ret) (.skip))) <|
  ak [aa 10 4,ax 11 .add 10 1,aa 4 11]
def kS:DF:=⟨.seq (ak [aF 2 0]) <|
  .seq (.region [] [⟨none,[((some 5),.op (.bD 5 1 [(.val (.string ⟨#[]⟩))] [(0,(.val (.val (.string ⟨#[120,39]⟩)))),(1,(.val (.val (.string ⟨#[39]⟩)))),(2,(.val (.val (.string ⟨#[92,110,39]⟩)))),(3,(.val (.val (.string ⟨#[110,39]⟩)))),(4,(.val (.val (.string ⟨#[92,39,39]⟩))))])),aa 3 5]⟩]) <|
  .seq (.seq (ak [aF 4 0]) <|
  .block 0 (.loop pU)) <|
  .seq (ak [aF 2 3]) <|
  .ret,
  [.tmp 2],25⟩
theorem pv:aP Tryz.prog 217 []=some kS:=by kernel_rfl
def kR:DF:=⟨.seq (ak [aF 2 0]) <|
  .seq (.seq (ak [aa 3 0]) <|
  .block 0 (.seq (.region [] [⟨none,[((some 5),.op (.iO .eql (.tmp 3) (.val (.val (.string ⟨#[116,111,107,101,110]⟩))))),aa 4 5]⟩]) <|
  .cond (.tmp 4) (.seq (ak [aF 2 3]) <|
  .ret) (.seq (.region [] [⟨none,[((some 7),.op (.iO .eql (.tmp 3) (.val (.val (.string ⟨#[108,101,102,116]⟩))))),aa 6 7]⟩]) <|
  .cond (.tmp 6) (.seq (ak [aF 2 4]) <|
  .ret) (.seq (.region [] [⟨none,[((some 9),.op (.iO .eql (.tmp 3) (.val (.val (.string ⟨#[114,105,103,104,116]⟩))))),aa 8 9]⟩]) <|
  .cond (.tmp 8) (.seq (ak [aF 2 5]) <|
  .ret) (.seq (.region [] [⟨none,[((some 11),.op (.iO .eql (.tmp 3) (.val (.val (.string ⟨#[110,111,110,97,115,115,111,99]⟩))))),aa 10 11]⟩]) <|
  .cond (.tmp 10) (.seq (ak [aF 2 6]) <|
  .ret) (.seq (.region [] [⟨none,[((some 13),.op (.iO .eql (.tmp 3) (.val (.val (.string ⟨#[115,116,97,114,116]⟩))))),aa 12 13]⟩]) <|
  .cond (.tmp 12) (.seq (ak [aF 2 7]) <|
  .ret) (.seq (.region [] [⟨none,[((some 15),.op (.iO .eql (.tmp 3) (.val (.val (.string ⟨#[112,114,101,99]⟩))))),aa 14 15]⟩]) <|
  .cond (.tmp 14) (.seq (ak [aF 2 8]) <|
  .ret) (.skip)))))))) <|
  .seq (ak [aF 2 0]) <|
  .ret,
  [.tmp 2],16⟩
theorem pg:aP Tryz.prog 218 []=some kR:=by kernel_rfl
def nC:DF:=⟨.seq (ak [aF 2 0]) <|
  .seq (.seq (ak [aa 3 0]) <|
  .block 0 (.seq (ak [((some 5),.op (.arith .eql (.tmp 3) (.val (.val (.int .u8 58))))),aa 4 5]) <|
  .cond (.tmp 4) (.seq (ak [aF 2 10]) <|
  .ret) (.seq (ak [((some 7),.op (.arith .eql (.tmp 3) (.val (.val (.int .u8 124))))),aa 6 7]) <|
  .cond (.tmp 6) (.seq (ak [aF 2 11]) <|
  .ret) (.seq (ak [((some 9),.op (.arith .eql (.tmp 3) (.val (.val (.int .u8 59))))),aa 8 9]) <|
  .cond (.tmp 8) (.seq (ak [aF 2 12]) <|
  .ret) (.skip))))) <|
  .seq (ak [aF 2 0]) <|
  .ret,
  [.tmp 2],10⟩
theorem ri:aP Tryz.prog 219 []=some nC:=by kernel_rfl
def vQ:DC :=
  .seq (.seq (.region [] [⟨none,[aa 21 7,bS 22 21,ao 23 3 22,aq 24 23,ax 25 .eql 24 0,aa 26 25]⟩,⟨(some (26,true)),[aa 27 7,bS 28 27,ao 29 0 28,aq 30 29,aM 31 30,ax 32 .gtr 31 0]⟩,⟨none,[bB 33 26 32,aa 34 33]⟩,⟨(some (34,true)),[aa 35 7,aG 36 183 [35],ax 37 .neq 36 9]⟩,⟨none,[bB 38 34 37]⟩]) <|
  .cond (.tmp 38) (.skip) (.exit 0)) <|
  .block 1 (.region [(1,3)] [⟨none,[ao 39 1 8,aq 40 39,aa 41 7,aG 42 182 [41],((some 43),.op (.app 5 88 (.tmp 40) (.tmp 42))),ao 44 1 8,(none,.op (.store 1 (.tmp 44) (.tmp 43)))]⟩])
def pJ:DF:=⟨.seq (ak [((some 4),.op (.alloc [(.emp 1),(.emp 1)])),((some 5),.op (.bj (.val (.val (.complex .f64 0 0))))),aF 6 0]) <|
  .seq (ak [aa 9 0,aa 10 1,((some 11),.op (.build [(.emp 1),(.val (.complex .f64 0 0)),(.val (.complex .f64 0 0)),(.val (.int .i64 0))] [(0,1,(.tmp 9)),(1,1,(.tmp 10))])),((some 12),.op (.box (.tmp 11))),aa 7 12]) <|
  .seq (ak [aa 13 7,aG 14 180 [13],((some 15),.op (.build [(.emp 1),(.emp 1)] [(0,1,(.tmp 14))])),((some 8),.op (.alloc [(.emp 1),(.emp 1)])),(none,.op (.store 2 (.tmp 8) (.tmp 15)))]) <|
  .seq (ak [aa 16 7,cZ 17 181 [(.tmp 16),(.val (.val (.int .i64 9))),(.val (.val (.int .i64 9)))]]) <|
  .seq (ak [aa 18 7,aG 19 182 [18],ao 20 1 8,(none,.op (.store 1 (.tmp 20) (.tmp 19)))]) <|
  .seq (.block 0 (.loop vQ)) <|
  .seq (.seq (.region [] [⟨none,[aa 45 7,bS 46 45,ao 47 3 46,aq 48 47,ax 49 .eql 48 0,aa 50 49]⟩,⟨(some (50,true)),[aa 51 7,bS 52 51,ao 53 0 52,aq 54 53,aM 55 54,ax 56 .gtr 55 0]⟩,⟨none,[bB 57 50 56]⟩]) <|
  .cond (.tmp 57) (ak [aa 58 7,cZ 59 181 [(.tmp 58),(.val (.val (.int .i64 9))),(.val (.val (.int .i64 9)))]]) (.skip)) <|
  .seq (.seq (ak [aa 60 7,bS 61 60,ao 62 0 61,aq 63 62,aM 64 63,ax 65 .gtr 64 0]) <|
  .cond (.tmp 65) (ak [aa 66 7,aG 67 184 [66]]) (.skip)) <|
  .seq (.seq (ak [aa 68 7,bS 69 68,ao 70 3 69,aq 71 70,ax 72 .neq 71 0]) <|
  .cond (.tmp 72) (.seq (.region [(4,9),(8,9)] [⟨none,[((some 73),.op (.build [(.emp 1),(.emp 1)] [])),aa 74 7,bS 75 74,ao 76 2 75,aq 77 76,aa 78 7,bS 79 78,ao 80 3 79,aq 81 80,(none,.op (.store 2 (.tmp 4) (.tmp 73))),aa 5 77,aa 6 81]⟩]) <|
  .ret) (.skip)) <|
  .seq (ak [aH 82 2 8,(none,.op (.store 2 (.tmp 4) (.tmp 82))),((some 5),.op (.bj (.val (.val (.complex .f64 0 0))))),aF 6 0]) <|
  .ret,
  [.cell 4 (some 2),.tmp 5,.tmp 6],83⟩
theorem ug:aP Tryz.prog 135 []=some pJ:=by kernel_rfl
def iP:DF:=⟨.seq (ak [aF 2 0]) <|
  .seq (.seq (.region [] [⟨none,[aa 3 0,bS 4 3,ao 5 3 4,aq 6 5,ax 7 .neq 6 0,aa 8 7]⟩,⟨(some (8,false)),[aa 9 0,bS 10 9,ao 11 0 10,aq 12 11,aM 13 12,ax 14 .eql 13 0]⟩,⟨none,[bF 15 8 14]⟩]) <|
  .cond (.tmp 15) (.seq (ak [aF 2 0]) <|
  .ret) (.skip)) <|
  .seq (ak [aa 16 0,bS 17 16,ao 18 0 17,aq 19 18,((some 20),.op (.idx 3 (.tmp 19) (.val (.val (.int .i64 0))))),ao 21 0 20,aq 22 21,aa 2 22]) <|
  .ret,
  [.tmp 2],23⟩
theorem mr:aP Tryz.prog 183 []=some iP:=by kernel_rfl
def mL:DC :=
  .seq (.seq (ak [aa 10 0,bS 11 10,ao 12 3 11,aq 13 12,ax 14 .eql 13 0]) <|
  .cond (.tmp 14) (.skip) (.exit 0)) <|
  .block 1 (.seq (.region [(0,2),(2,4)] [⟨none,[aH 15 2 4,aa 16 0,aG 17 220 [16],((some 18),.op (.build [(.val (.string ⟨#[]⟩)),(.val (.complex .f64 0 0)),(.emp 1),(.val (.string ⟨#[]⟩)),(.val (.complex .f64 0 0))] [(0,2,(.tmp 15)),(2,1,(.tmp 17))])),((some 5),.op (.alloc [(.val (.string ⟨#[]⟩)),(.val (.complex .f64 0 0)),(.emp 1),(.val (.string ⟨#[]⟩)),(.val (.complex .f64 0 0))])),(none,.op (.store 5 (.tmp 5) (.tmp 18)))]⟩]) <|
  .seq (.seq (ak [aa 19 0,cZ 20 221 [(.tmp 19),(.val (.val (.int .i64 8))),(.val (.val (.int .i64 8)))]]) <|
  .cond (.tmp 20) (.seq (ak [aa 21 0,cZ 22 181 [(.tmp 21),(.val (.val (.int .i64 8))),(.val (.val (.int .i64 8)))]]) <|
  ak [aa 23 0,cZ 24 181 [(.tmp 23),(.val (.val (.int .i64 1))),(.val (.val (.int .i64 2)))],ao 25 3 5,(none,.op (.store 2 (.tmp 25) (.tmp 24)))]) (.skip)) <|
  .seq (.region [] [⟨none,[aa 26 3,aH 27 5 5,((some 28),.op (.bD 1 5 [(.val (.string ⟨#[]⟩)),(.val (.complex .f64 0 0)),(.emp 1),(.val (.string ⟨#[]⟩)),(.val (.complex .f64 0 0))] [(0,(.tmp 27))])),((some 29),.op (.app 5 88 (.tmp 26) (.tmp 28))),aa 3 29]⟩]) <|
  .seq (.seq (ak [aa 30 0,cZ 31 221 [(.tmp 30),(.val (.val (.int .i64 11))),(.val (.val (.int .i64 11)))],cb 32 31]) <|
  .cond (.tmp 32) (.seq (ak [aa 33 0,cZ 34 181 [(.tmp 33),(.val (.val (.int .i64 12))),(.val (.val (.int .i64 12)))]]) <|
  .seq (ak [aa 35 3,aa 2 35]) <|
  .ret) (.skip)) <|
  ak [aa 36 0,cZ 37 181 [(.tmp 36),(.val (.val (.int .i64 11))),(.val (.val (.int .i64 11)))]])
def iy:DF:=⟨.seq (ak [((some 2),.op (.bj (.val (.emp 1))))]) <|
  .seq (ak [((some 3),.op (.bj (.val (.emp 1))))]) <|
  .seq (.region [] [⟨none,[aa 6 0,cZ 7 181 [(.tmp 6),(.val (.val (.int .i64 1))),(.val (.val (.int .i64 1)))],((some 4),.op (.alloc [(.val (.string ⟨#[]⟩)),(.val (.complex .f64 0 0))])),(none,.op (.store 2 (.tmp 4) (.tmp 7)))]⟩]) <|
  .seq (ak [aa 8 0,cZ 9 181 [(.tmp 8),(.val (.val (.int .i64 10))),(.val (.val (.int .i64 10)))]]) <|
  .seq (.block 0 (.loop mL)) <|
  .seq (ak [aa 38 3,aa 2 38]) <|
  .ret,
  [.tmp 2],39⟩
theorem lR:aP Tryz.prog 182 []=some iy:=by kernel_rfl
def nB:DC :=
  .seq (.seq (ak [aa 4 0,cZ 5 221 [(.tmp 4),(.val (.val (.int .i64 1))),(.val (.val (.int .i64 2)))]]) <|
  .cond (.tmp 5) (.skip) (.exit 0)) <|
  .block 1 (.region [] [⟨none,[aa 6 3,aa 7 0,cZ 8 181 [(.tmp 7),(.val (.val (.int .i64 1))),(.val (.val (.int .i64 2)))],((some 9),.op (.bD 1 2 [(.val (.string ⟨#[]⟩)),(.val (.complex .f64 0 0))] [(0,(.tmp 8))])),((some 10),.op (.app 2 32 (.tmp 6) (.tmp 9))),aa 3 10]⟩])
def iV:DF:=⟨.seq (ak [((some 2),.op (.bj (.val (.emp 1))))]) <|
  .seq (ak [((some 3),.op (.bj (.val (.emp 1))))]) <|
  .seq (.block 0 (.loop nB)) <|
  .seq (ak [aa 11 3,aa 2 11]) <|
  .ret,
  [.tmp 2],12⟩
theorem mA:aP Tryz.prog 220 []=some iV:=by kernel_rfl
def jO:DF:=⟨.seq (ak [aV 6 false]) <|
  .seq (.region [] [⟨none,[aa 7 0,bS 8 7,ao 9 0 8,aq 10 9,aM 11 10,ax 12 .gtr 11 0,aa 13 12]⟩,⟨(some (13,true)),[aa 14 0,aG 15 183 [14],aa 16 1,aO 17 .eql 15 16,aa 18 17]⟩,⟨(some (18,false)),[aa 19 0,aG 20 183 [19],aa 21 2,aO 22 .eql 20 21]⟩,⟨(some (13,true)),[bF 23 18 22]⟩,⟨none,[bB 24 13 23,aa 6 24]⟩]) <|
  .ret,
  [.tmp 6],25⟩
theorem nX:aP Tryz.prog 221 []=some jO:=by kernel_rfl
def iX:DF:=⟨.seq (.region [] [⟨none,[((some 6),.op (.alloc [(.val (.string ⟨#[]⟩)),(.val (.complex .f64 0 0))]))]⟩]) <|
  .seq (.seq (.region [] [⟨none,[aa 8 0,bS 9 8,ao 10 3 9,aq 11 10,ax 12 .neq 11 0,aa 13 12]⟩,⟨(some (13,false)),[aa 14 0,aa 15 1,aa 16 2,aG 17 221 [14,15,16],cb 18 17]⟩,⟨none,[bF 19 13 18]⟩]) <|
  .cond (.tmp 19) (.seq (ak [aa 20 0,aG 21 184 [20]]) <|
  .seq (.region [] [⟨none,[((some 22),.op (.build [(.val (.string ⟨#[]⟩)),(.val (.complex .f64 0 0))] [])),(none,.op (.store 2 (.tmp 6) (.tmp 22)))]⟩]) <|
  .ret) (.skip)) <|
  .seq (.region [] [⟨none,[aa 23 0,bS 24 23,ao 25 0 24,aq 26 25,((some 27),.op (.idx 3 (.tmp 26) (.val (.val (.int .i64 0))))),aH 28 3 27,((some 7),.op (.alloc [(.val (.int .i64 0)),(.val (.string ⟨#[]⟩)),(.val (.complex .f64 0 0))])),(none,.op (.store 3 (.tmp 7) (.tmp 28)))]⟩]) <|
  .seq (ak [aa 29 0,aa 30 0,bS 31 30,ao 32 0 31,aq 33 32,((some 34),.op (.slice 3 (.tmp 33) (some (.val (.val (.int .i64 1)))) none)),bS 35 29,ao 36 0 35,(none,.op (.store 1 (.tmp 36) (.tmp 34)))]) <|
  .seq (.region [] [⟨none,[ao 37 1 7,aq 38 37,ao 39 2 7,aq 40 39,((some 41),.op (.build [(.val (.string ⟨#[]⟩)),(.val (.complex .f64 0 0))] [(0,1,(.tmp 38)),(1,1,(.tmp 40))])),(none,.op (.store 2 (.tmp 6) (.tmp 41)))]⟩]) <|
  .ret,
  [.cell 6 (some 2)],42⟩
theorem mz:aP Tryz.prog 181 []=some iX:=by kernel_rfl
def iS:DF:=⟨.seq (.seq (ak [aa 2 0,bS 3 2,ao 4 3 3,aq 5 4,ax 6 .neq 5 0]) <|
  .cond (.tmp 6) (.ret) (.skip)) <|
  .seq (ak [aa 7 0,aa 8 0,aa 9 0,bS 10 9,ao 11 1 10,aq 12 11,bS 13 7,ao 14 2 13,(none,.op (.store 1 (.tmp 14) (.tmp 12))),bS 15 8,ao 16 3 15,(none,.op (.store 1 (.tmp 16) (.val (.val (.int .i64 4)))))]) <|
  .seq (ak [aa 17 0,bS 18 17,ao 19 0 18,aq 20 19,aM 21 20,ax 22 .gtr 21 0]) <|
  .cond (.tmp 22) (ak [aa 23 0,aa 24 0,aa 25 0,bS 26 25,ao 27 0 26,aq 28 27,((some 29),.op (.idx 3 (.tmp 28) (.val (.val (.int .i64 0))))),ao 30 2 29,aq 31 30,bS 32 23,ao 33 2 32,(none,.op (.store 1 (.tmp 33) (.tmp 31))),bS 34 24,ao 35 3 34,(none,.op (.store 1 (.tmp 35) (.val (.val (.int .i64 3)))))]) (.skip),
  [],36⟩
theorem mH:aP Tryz.prog 184 []=some iS:=by kernel_rfl
def mn:DC :=
  .seq (.seq (.region [] [⟨none,[aa 6 0,bS 7 6,ao 8 3 7,aq 9 8,ax 10 .eql 9 0,aa 11 10]⟩,⟨(some (11,true)),[aa 12 0,bS 13 12,ao 14 0 13,aq 15 14,aM 16 15,ax 17 .gtr 16 0]⟩,⟨none,[bB 18 11 17,aa 19 18]⟩,⟨(some (19,true)),[aa 20 0,aG 21 183 [20],ax 22 .neq 21 9]⟩,⟨none,[bB 23 19 22]⟩]) <|
  .cond (.tmp 23) (.skip) (.exit 0)) <|
  .block 1 (.seq (ak [aa 24 0,aG 25 183 [24],aa 4 25]) <|
  .seq (.seq (ak [aa 26 4,ax 27 .eql 26 7]) <|
  .cond (.tmp 27) (.seq (ak [aa 28 0,aa 29 4,aa 30 4,aG 31 181 [28,29,30]]) <|
  .seq (.region [] [⟨none,[aa 32 3,aa 33 4,aa 34 0,cZ 35 181 [(.tmp 34),(.val (.val (.int .i64 1))),(.val (.val (.int .i64 1)))],((some 36),.op (.bD 1 2 [(.val (.string ⟨#[]⟩)),(.val (.complex .f64 0 0))] [(0,(.tmp 35))])),((some 37),.op (.build [(.val (.int .i64 0)),(.emp 1)] [(0,1,(.tmp 33)),(1,1,(.tmp 36))])),((some 38),.op (.bD 1 2 [(.val (.int .i64 0)),(.emp 1)] [(0,(.tmp 37))])),((some 39),.op (.app 2 32 (.tmp 32) (.tmp 38))),aa 3 39]⟩]) <|
  .exit 1) (.skip)) <|
  .seq (.seq (.region [] [⟨none,[aa 40 4,ax 41 .neq 40 3,aa 42 41]⟩,⟨(some (42,true)),[aa 43 4,ax 44 .neq 43 4]⟩,⟨none,[bB 45 42 44,aa 46 45]⟩,⟨(some (46,true)),[aa 47 4,ax 48 .neq 47 5]⟩,⟨none,[bB 49 46 48,aa 50 49]⟩,⟨(some (50,true)),[aa 51 4,ax 52 .neq 51 6]⟩,⟨none,[bB 53 50 52]⟩]) <|
  .cond (.tmp 53) (.seq (ak [aa 54 0,aG 55 184 [54]]) <|
  .exit 1) (.skip)) <|
  .seq (ak [aa 56 0,aa 57 4,aa 58 4,aG 59 181 [56,57,58]]) <|
  .seq (.region [] [⟨none,[aa 60 0,cZ 61 181 [(.tmp 60),(.val (.val (.int .i64 1))),(.val (.val (.int .i64 2)))],((some 5),.op (.alloc [(.val (.string ⟨#[]⟩)),(.val (.complex .f64 0 0))])),(none,.op (.store 2 (.tmp 5) (.tmp 61)))]⟩]) <|
  .region [(2,5),(3,5)] [⟨none,[aa 62 3,aa 63 4,aH 64 2 5,((some 65),.op (.bD 1 2 [(.val (.string ⟨#[]⟩)),(.val (.complex .f64 0 0))] [(0,(.tmp 64))])),aa 66 0,aG 67 220 [66],((some 68),.op (.app 2 32 (.tmp 65) (.tmp 67))),((some 69),.op (.build [(.val (.int .i64 0)),(.emp 1)] [(0,1,(.tmp 63)),(1,1,(.tmp 68))])),((some 70),.op (.bD 1 2 [(.val (.int .i64 0)),(.emp 1)] [(0,(.tmp 69))])),((some 71),.op (.app 2 32 (.tmp 62) (.tmp 70))),aa 3 71]⟩])
def ix:DF:=⟨.seq (ak [((some 2),.op (.bj (.val (.emp 1))))]) <|
  .seq (ak [((some 3),.op (.bj (.val (.emp 1))))]) <|
  .seq (.block 0 (.loop mn)) <|
  .seq (ak [aa 72 3,aa 2 72]) <|
  .ret,
  [.tmp 2],73⟩
theorem lQ:aP Tryz.prog 180 []=some ix:=by kernel_rfl
def rA:DC :=
  .seq (.seq (.region [] [⟨none,[aa 17 6,ao 18 1 1,aq 19 18,aM 20 19,aO 21 .lss 17 20,aa 22 21]⟩,⟨(some (22,true)),[aa 23 5,bS 24 23,ao 25 10 24,aq 26 25,ax 27 .eql 26 0]⟩,⟨none,[bB 28 22 27]⟩]) <|
  .cond (.tmp 28) (.skip) (.exit 0)) <|
  .seq (.block 1 (ak [aa 31 5,ao 32 1 1,aq 33 32,aa 34 6,aZ 35 5 33 34,aH 36 5 35,aG 37 138 [31,36]])) <|
  ak [aa 29 6,ax 30 .add 29 1,aa 6 30]
def me:DF:=⟨.seq (ak [b6 1 0,((some 2),.op (.alloc [(.emp 1),(.emp 1),(.emp 1),(.val (.int .i64 0))])),((some 3),.op (.bj (.val (.val (.complex .f64 0 0))))),aF 4 0]) <|
  .seq (.region [] [⟨none,[((some 7),.op (.build [(.emp 1),(.emp 1),(.emp 1),(.val (.int .i64 0)),(.emp 1),(.val (.string ⟨#[]⟩)),(.val (.complex .f64 0 0)),(.val (.bool false)),(.val (.int .i64 0)),(.val (.complex .f64 0 0)),(.val (.int .i64 0))] [])),((some 8),.op (.box (.tmp 7))),aa 5 8]⟩]) <|
  .seq (ak [aa 9 5,ao 10 0 1,aq 11 10,aG 12 136 [9,11]]) <|
  .seq (ak [aa 13 5,ao 14 1 1,aq 15 14,aG 16 137 [13,15]]) <|
  .seq (.seq (ak [aF 6 0]) <|
  .block 0 (.loop rA)) <|
  .seq (.seq (.region [] [⟨none,[aa 38 5,bS 39 38,ao 40 7 39,aq 41 40,aa 42 41]⟩,⟨(some (42,true)),[aa 43 5,bS 44 43,ao 45 0 44,aH 46 4 45,aa 47 5,bS 48 47,ao 49 5 48,ao 50 0 49,aq 51 50,aG 52 139 [46,51],ax 53 .lss 52 0]⟩,⟨none,[bB 54 42 53]⟩]) <|
  .cond (.tmp 54) (ak [aa 55 5,aa 56 5,bS 57 56,ao 58 5 57,aH 59 2 58,cZ 60 140 [(.tmp 55),(.tmp 59),(.val (.val (.int .i64 8)))]]) (.skip)) <|
  .seq (.seq (ak [ao 61 1 1,aq 62 61,aM 63 62,ax 64 .eql 63 0]) <|
  .cond (.tmp 64) (.region [] [⟨none,[aa 65 5,((some 66),.op (.build [(.val (.string ⟨#[]⟩)),(.val (.complex .f64 0 0))] [])),cZ 67 140 [(.tmp 65),(.tmp 66),(.val (.val (.int .i64 8)))]]⟩]) (.skip)) <|
  .seq (.seq (ak [aa 68 5,bS 69 68,ao 70 10 69,aq 71 70,ax 72 .neq 71 0]) <|
  .cond (.tmp 72) (.seq (.region [(4,9),(8,9)] [⟨none,[((some 73),.op (.build [(.emp 1),(.emp 1),(.emp 1),(.val (.int .i64 0))] [])),aa 74 5,bS 75 74,ao 76 9 75,aq 77 76,aa 78 5,bS 79 78,ao 80 10 79,aq 81 80,(none,.op (.store 4 (.tmp 2) (.tmp 73))),aa 3 77,aa 4 81]⟩]) <|
  .ret) (.skip)) <|
  .seq (.seq (ak [aa 82 5,bS 83 82,ao 84 7 83,aq 85 84]) <|
  .cond (.tmp 85) (ak [aa 86 5,aa 87 5,bS 88 87,ao 89 0 88,aH 90 4 89,aa 91 5,bS 92 91,ao 93 5 92,ao 94 0 93,aq 95 94,aG 96 139 [90,95],bS 97 86,ao 98 0 97,ao 99 3 98,(none,.op (.store 1 (.tmp 99) (.tmp 96)))]) (.skip)) <|
  .seq (ak [aa 100 5,bS 101 100,ao 102 0 101,aH 103 4 102,(none,.op (.store 4 (.tmp 2) (.tmp 103))),((some 3),.op (.bj (.val (.val (.complex .f64 0 0))))),aF 4 0]) <|
  .ret,
  [.cell 2 (some 4),.tmp 3,.tmp 4],104⟩
theorem qX:aP Tryz.prog 95 [1]=some me:=by kernel_rfl
def oS:DC :=
  .seq (.seq (.region [] [⟨none,[aa 28 5,ao 29 2 3,aq 30 29,aM 31 30,aO 32 .lss 28 31,aa 33 32]⟩,⟨(some (33,true)),[aa 34 0,bS 35 34,ao 36 10 35,aq 37 36,ax 38 .eql 37 0]⟩,⟨none,[bB 39 33 38]⟩]) <|
  .cond (.tmp 39) (.skip) (.exit 0)) <|
  .seq (.block 1 (.seq (.region [] [⟨none,[ao 42 2 3,aq 43 42,aa 44 5,aZ 45 2 43 44,aH 46 2 45,((some 6),.op (.alloc [(.val (.string ⟨#[]⟩)),(.val (.complex .f64 0 0))])),(none,.op (.store 2 (.tmp 6) (.tmp 46)))]⟩]) <|
  .seq (.seq (ak [ao 47 0 6,aq 48 47,aG 49 151 [48],cb 50 49]) <|
  .cond (.tmp 50) (.seq (ak [aa 51 0,aH 52 2 6,cZ 53 140 [(.tmp 51),(.tmp 52),(.val (.val (.int .i64 3)))]]) <|
  .ret) (.skip)) <|
  .seq (.seq (ak [aa 54 5,ax 55 .eql 54 6]) <|
  .cond (.tmp 55) (.seq (ak [aa 56 0,aH 57 2 6,cZ 58 140 [(.tmp 56),(.tmp 57),(.val (.val (.int .i64 5)))]]) <|
  .ret) (.skip)) <|
  .seq (ak [aa 59 0,aH 60 2 6,cZ 61 186 [(.tmp 59),(.tmp 60),(.val (.val (.bool true)))],aa 7 61]) <|
  .seq (ak [ao 62 1 4,aq 63 62,aa 64 7,((some 65),.op (.bD 1 1 [(.val (.int .i64 0))] [(0,(.tmp 64))])),((some 66),.op (.app 1 8 (.tmp 63) (.tmp 65))),ao 67 1 4,(none,.op (.store 1 (.tmp 67) (.tmp 66)))]) <|
  .seq (ak [aa 68 7,ax 69 .geq 68 0]) <|
  .cond (.tmp 69) (ak [aa 70 7,ao 71 2 4,(none,.op (.store 1 (.tmp 71) (.tmp 70)))]) (.skip))) <|
  ak [aa 40 5,ax 41 .add 40 1,aa 5 41]
def jQ:DF:=⟨.seq (ak [b6 3 1]) <|
  .seq (.region [(7,9)] [⟨none,[aa 8 0,bS 9 8,ao 10 0 9,aH 11 4 10,ao 12 0 3,ao 13 0 12,aq 14 13,aG 15 139 [11,14],((some 16),.op (.build [(.val (.int .i64 0)),(.emp 1),(.val (.int .i64 0))] [(0,1,(.tmp 15)),(2,1,(.val (.val (.int .i64 (-1)))))])),((some 4),.op (.alloc [(.val (.int .i64 0)),(.emp 1),(.val (.int .i64 0))])),(none,.op (.store 3 (.tmp 4) (.tmp 16)))]⟩]) <|
  .seq (.seq (ak [aa 17 0,bS 18 17,ao 19 0 18,ao 20 2 19,aq 21 20,aM 22 21,ax 23 .eql 22 40]) <|
  .cond (.tmp 23) (ak [aa 24 0,ao 25 0 3,aH 26 2 25,cZ 27 140 [(.tmp 24),(.tmp 26),(.val (.val (.int .i64 5)))]]) (.skip)) <|
  .seq (.seq (ak [aF 5 0]) <|
  .block 0 (.loop oS)) <|
  .seq (.seq (.region [] [⟨none,[ao 72 3 3,ao 73 0 72,aq 74 73,((some 75),.op (.iO .neq (.tmp 74) (.val (.val (.string ⟨#[]⟩))))),aa 76 75]⟩,⟨(some (76,true)),[aa 77 0,bS 78 77,ao 79 10 78,aq 80 79,ax 81 .eql 80 0]⟩,⟨none,[bB 82 76 81]⟩]) <|
  .cond (.tmp 82) (.seq (.seq (ak [ao 83 3 3,ao 84 0 83,aq 85 84,aG 86 151 [85],cb 87 86]) <|
  .cond (.tmp 87) (.seq (ak [aa 88 0,ao 89 3 3,aH 90 2 89,cZ 91 140 [(.tmp 88),(.tmp 90),(.val (.val (.int .i64 3)))]]) <|
  .ret) (.skip)) <|
  ak [aa 92 0,ao 93 3 3,aH 94 2 93,cZ 95 186 [(.tmp 92),(.tmp 94),(.val (.val (.bool false)))],ao 96 2 4,(none,.op (.store 1 (.tmp 96) (.tmp 95)))]) (.skip)) <|
  ak [aa 97 0,aa 98 0,bS 99 98,ao 100 0 99,ao 101 2 100,aq 102 101,aH 103 3 4,((some 104),.op (.bD 1 3 [(.val (.int .i64 0)),(.emp 1),(.val (.int .i64 0))] [(0,(.tmp 103))])),((some 105),.op (.app 3 40 (.tmp 102) (.tmp 104))),bS 106 97,ao 107 0 106,ao 108 2 107,(none,.op (.store 1 (.tmp 108) (.tmp 105)))],
  [],109⟩
theorem nY:aP Tryz.prog 138 [3]=some jQ:=by kernel_rfl
def ma:DF:=⟨.seq (ak [aV 2 false]) <|
  .seq (.region [] [⟨none,[aa 3 0,aG 4 154 [3],aa 5 4]⟩,⟨(some (5,false)),[aa 6 0,aG 7 192 [6]]⟩,⟨none,[bF 8 5 7,aa 2 8]⟩]) <|
  .ret,
  [.tmp 2],9⟩
theorem qG:aP Tryz.prog 151 []=some ma:=by kernel_rfl
def tl:DC :=
  .seq (.seq (ak [aa 18 3,aa 19 0,((some 20),.op (.gG (.tmp 19))),aO 21 .lss 18 20]) <|
  .cond (.tmp 21) (.skip) (.exit 0)) <|
  .seq (.block 1 (.seq (ak [aa 24 0,aa 25 3,((some 26),.op (.c7 (.tmp 24) (.tmp 25))),aG 27 194 [26],cb 28 27]) <|
  .cond (.tmp 28) (.seq (ak [aV 2 false]) <|
  .ret) (.skip))) <|
  ak [aa 22 3,ax 23 .add 22 1,aa 3 23]
def m7:DF:=⟨.seq (ak [aV 2 false]) <|
  .seq (.seq (.region [] [⟨none,[aa 4 0,((some 5),.op (.gG (.tmp 4))),ax 6 .eql 5 0,aa 7 6]⟩,⟨(some (7,false)),[aa 8 0,((some 9),.op (.gG (.tmp 8))),ax 10 .gtr 9 20]⟩,⟨none,[bF 11 7 10,aa 12 11]⟩,⟨(some (12,false)),[aa 13 0,((some 14),.op (.c7 (.tmp 13) (.val (.val (.int .i64 0))))),aG 15 193 [14],cb 16 15]⟩,⟨none,[bF 17 12 16]⟩]) <|
  .cond (.tmp 17) (.seq (ak [aV 2 false]) <|
  .ret) (.skip)) <|
  .seq (.seq (ak [aF 3 0]) <|
  .block 0 (.loop tl)) <|
  .seq (ak [aV 2 true]) <|
  .ret,
  [.tmp 2],29⟩
theorem rf:aP Tryz.prog 154 []=some m7:=by kernel_rfl
def jT:DF:=⟨.seq (ak [b6 4 1]) <|
  .seq (ak [aa 6 0,bS 7 6,ao 8 10 7,aq 9 8,ax 10 .eql 9 0]) <|
  .cond (.tmp 10) (ak [aa 11 0,aa 12 0,ao 13 1 4,aq 14 13,aa 15 2,bS 16 11,ao 17 9 16,(none,.op (.store 1 (.tmp 17) (.tmp 14))),bS 18 12,ao 19 10 18,(none,.op (.store 1 (.tmp 19) (.tmp 15)))]) (.skip),
  [],20⟩
theorem od:aP Tryz.prog 140 [4]=some jT:=by kernel_rfl
def iW:DF:=⟨.seq (ak [b6 4 1,aF 6 0]) <|
  .seq (ak [aa 8 0,bS 9 8,ao 10 0 9,aH 11 4 10,ao 12 0 4,aq 13 12,aG 14 139 [11,13],aa 7 14]) <|
  .seq (.block 0 (.seq (.region [] [⟨none,[aa 19 7,ax 20 .geq 19 0,aa 21 20]⟩,⟨(some (21,true)),[aa 22 2]⟩,⟨none,[bB 23 21 22,aa 18 23]⟩]) <|
  .cond (.tmp 18) (.seq (ak [aa 24 7,((some 25),.op (.arith .sub (.val (.val (.int .i64 (-1)))) (.tmp 24))),aa 6 25]) <|
  .ret) (.seq (ak [aa 27 7,ax 28 .geq 27 0,aa 26 28]) <|
  .cond (.tmp 26) (ak [aa 29 0,aH 30 2 4,cZ 31 140 [(.tmp 29),(.tmp 30),(.val (.val (.int .i64 6)))]]) (.seq (.region [] [⟨none,[aa 33 0,bS 34 33,ao 35 0 34,aH 36 4 35,ao 37 0 4,aq 38 37,aG 39 152 [36,38],ax 40 .geq 39 0,aa 41 40]⟩,⟨(some (41,false)),[ao 42 0 4,aq 43 42,aG 44 192 [43]]⟩,⟨none,[bF 45 41 44,aa 46 45]⟩,⟨(some (46,false)),[ao 47 0 4,aq 48 47,((some 49),.op (.iO .eql (.tmp 48) (.val (.val (.string ⟨#[101,114,114,111,114]⟩)))))]⟩,⟨none,[bF 50 46 49,aa 32 50]⟩]) <|
  .cond (.tmp 32) (.seq (ak [aa 51 0,aH 52 2 4,aG 53 223 [51,52],aa 6 53]) <|
  .ret) (ak [aa 15 0,aH 16 2 4,cZ 17 140 [(.tmp 15),(.tmp 16),(.val (.val (.int .i64 6)))]]))))) <|
  .seq (ak [aF 6 0]) <|
  .ret,
  [.tmp 6],54⟩
theorem ml:aP Tryz.prog 186 [4]=some iW:=by kernel_rfl
def tY:DC :=
  .seq (.seq (ak [aa 6 5,ao 7 1 2,aq 8 7,aM 9 8,aO 10 .lss 6 9]) <|
  .cond (.tmp 10) (.skip) (.exit 0)) <|
  .seq (.block 1 (.seq (ak [ao 13 1 2,aq 14 13,aa 15 5,aZ 16 1 14 15,aq 17 16,aa 18 1,((some 19),.op (.iO .eql (.tmp 17) (.tmp 18)))]) <|
  .cond (.tmp 19) (.seq (ak [aa 20 5,aa 4 20]) <|
  .ret) (.skip))) <|
  ak [aa 11 5,ax 12 .add 11 1,aa 5 12]
def ox:DF:=⟨.seq (ak [b6 2 0,aF 4 0]) <|
  .seq (.seq (ak [aF 5 0]) <|
  .block 0 (.loop tY)) <|
  .seq (ak [aF 4 (-1)]) <|
  .ret,
  [.tmp 4],21⟩
theorem sP:aP Tryz.prog 139 [2]=some ox:=by kernel_rfl
def tw:DC :=
  .seq (.seq (ak [aa 6 5,ao 7 0 2,aq 8 7,aM 9 8,aO 10 .lss 6 9]) <|
  .cond (.tmp 10) (.skip) (.exit 0)) <|
  .seq (.block 1 (.seq (ak [ao 13 0 2,aq 14 13,aa 15 5,aZ 16 3 14 15,ao 17 0 16,aq 18 17,aa 19 1,((some 20),.op (.iO .eql (.tmp 18) (.tmp 19)))]) <|
  .cond (.tmp 20) (.seq (ak [aa 21 5,aa 4 21]) <|
  .ret) (.skip))) <|
  ak [aa 11 5,ax 12 .add 11 1,aa 5 12]
def nI:DF:=⟨.seq (ak [b6 2 0,aF 4 0]) <|
  .seq (.seq (ak [aF 5 0]) <|
  .block 0 (.loop tw)) <|
  .seq (ak [aF 4 (-1)]) <|
  .ret,
  [.tmp 4],22⟩
theorem rj:aP Tryz.prog 152 [2]=some nI:=by kernel_rfl
def ia:DF:=⟨.seq (ak [b6 3 1,aF 4 0]) <|
  .seq (ak [aa 6 0,bS 7 6,ao 8 0 7,aH 9 4 8,ao 10 0 3,aq 11 10,aG 12 152 [9,11],aa 5 12]) <|
  .seq (.seq (ak [aa 13 5,ax 14 .geq 13 0]) <|
  .cond (.tmp 14) (.seq (ak [aa 15 5,aa 4 15]) <|
  .ret) (.skip)) <|
  .seq (.seq (ak [aa 16 0,bS 17 16,ao 18 0 17,ao 19 0 18,aq 20 19,aM 21 20,ax 22 .eql 21 24]) <|
  .cond (.tmp 22) (.seq (ak [aa 23 0,aH 24 2 3,cZ 25 140 [(.tmp 23),(.tmp 24),(.val (.val (.int .i64 5)))]]) <|
  .seq (ak [aF 4 0]) <|
  .ret) (.skip)) <|
  .seq (.region [] [⟨none,[aa 26 0,aa 27 0,bS 28 27,ao 29 0 28,ao 30 0 29,aq 31 30,ao 32 0 3,aq 33 32,((some 34),.op (.build [(.val (.string ⟨#[]⟩)),(.val (.int .i64 0)),(.val (.int .i64 0))] [(0,1,(.tmp 33))])),((some 35),.op (.bD 1 3 [(.val (.string ⟨#[]⟩)),(.val (.int .i64 0)),(.val (.int .i64 0))] [(0,(.tmp 34))])),((some 36),.op (.app 3 32 (.tmp 31) (.tmp 35))),bS 37 26,ao 38 0 37,ao 39 0 38,(none,.op (.store 1 (.tmp 39) (.tmp 36)))]⟩]) <|
  .seq (ak [aa 40 0,bS 41 40,ao 42 0 41,ao 43 0 42,aq 44 43,aM 45 44,ax 46 .sub 45 1,aa 4 46]) <|
  .ret,
  [.tmp 4],47⟩
theorem lj:aP Tryz.prog 223 [3]=some ia:=by kernel_rfl
def oq:DC :=
  .seq (.seq (.region [] [⟨none,[aa 60 7,ao 61 1 5,aq 62 61,aM 63 62,aO 64 .lss 60 63,aa 65 64]⟩,⟨(some (65,true)),[aa 66 0,bS 67 66,ao 68 10 67,aq 69 68,ax 70 .eql 69 0]⟩,⟨none,[bB 71 65 70]⟩]) <|
  .cond (.tmp 71) (.skip) (.exit 2)) <|
  .seq (.block 3 (ak [aa 74 0,ao 75 0 5,aq 76 75,ao 77 1 5,aq 78 77,aa 79 7,aZ 80 2 78 79,aH 81 2 80,aG 82 185 [74,76,81]])) <|
  ak [aa 72 7,ax 73 .add 72 1,aa 7 73]
def og:DC :=
  .seq (.seq (.region [] [⟨none,[aa 8 4,aa 9 1,aM 10 9,aO 11 .lss 8 10,aa 12 11]⟩,⟨(some (12,true)),[aa 13 0,bS 14 13,ao 15 10 14,aq 16 15,ax 17 .eql 16 0]⟩,⟨none,[bB 18 12 17]⟩]) <|
  .cond (.tmp 18) (.skip) (.exit 0)) <|
  .seq (.block 1 (.seq (ak [aa 21 1,aa 22 4,aZ 23 2 21 22,aH 24 2 23,((some 5),.op (.alloc [(.val (.int .i64 0)),(.emp 1)])),(none,.op (.store 2 (.tmp 5) (.tmp 24)))]) <|
  .seq (.seq (.region [] [⟨none,[ao 25 0 5,aq 26 25,ax 27 .lss 26 3,aa 28 27]⟩,⟨(some (28,false)),[ao 29 0 5,aq 30 29,ax 31 .gtr 30 7]⟩,⟨none,[bF 32 28 31]⟩]) <|
  .cond (.tmp 32) (.seq (.region [] [⟨none,[((some 33),.op (.build [(.val (.string ⟨#[]⟩)),(.val (.complex .f64 0 0))] [])),((some 6),.op (.alloc [(.val (.string ⟨#[]⟩)),(.val (.complex .f64 0 0))])),(none,.op (.store 2 (.tmp 6) (.tmp 33)))]⟩]) <|
  .seq (.seq (ak [ao 34 1 5,aq 35 34,aM 36 35,ax 37 .gtr 36 0]) <|
  .cond (.tmp 37) (ak [ao 38 1 5,aq 39 38,((some 40),.op (.idx 2 (.tmp 39) (.val (.val (.int .i64 0))))),aH 41 2 40,(none,.op (.store 2 (.tmp 6) (.tmp 41)))]) (.skip)) <|
  .seq (ak [aa 42 0,aH 43 2 6,cZ 44 140 [(.tmp 42),(.tmp 43),(.val (.val (.int .i64 3)))]]) <|
  .ret) (.skip)) <|
  .seq (.seq (.region [] [⟨none,[ao 45 0 5,aq 46 45,ax 47 .neq 46 3,aa 48 47]⟩,⟨(some (48,true)),[ao 49 0 5,aq 50 49,ax 51 .neq 50 7]⟩,⟨none,[bB 52 48 51]⟩]) <|
  .cond (.tmp 52) (ak [aa 53 0,bS 54 53,ao 55 8 54,aq 56 55,ax 57 .add 56 1,bS 58 53,ao 59 8 58,(none,.op (.store 1 (.tmp 59) (.tmp 57)))]) (.skip)) <|
  .seq (ak [aF 7 0]) <|
  .block 2 (.loop oq))) <|
  ak [aa 19 4,ax 20 .add 19 1,aa 4 20]
def ja:DF:=⟨.seq (ak [aF 4 0]) <|
  .block 0 (.loop og),
  [],83⟩
theorem ng:aP Tryz.prog 136 []=some ja:=by kernel_rfl
def iv:DF:=⟨.seq (ak [b6 5 2]) <|
  .block 0 (.seq (.region [] [⟨none,[ao 63 0 5,aq 64 63,aG 65 151 [64],cb 66 65,aa 67 66]⟩,⟨(some (67,false)),[aa 68 1,ax 69 .eql 68 7,aa 70 69]⟩,⟨(some (70,true)),[ao 71 0 5,aq 72 71,aG 73 154 [72],cb 74 73]⟩,⟨(some (67,false)),[bB 75 70 74]⟩,⟨none,[bF 76 67 75,aa 62 76]⟩]) <|
  .cond (.tmp 62) (ak [aa 77 0,aH 78 2 5,cZ 79 140 [(.tmp 77),(.tmp 78),(.val (.val (.int .i64 3)))]]) (.seq (ak [aa 81 1,ax 82 .eql 81 7,aa 80 82]) <|
  .cond (.tmp 80) (.seq (.seq (ak [aa 83 0,bS 84 83,ao 85 7 84,aq 86 85]) <|
  .cond (.tmp 86) (ak [aa 87 0,aH 88 2 5,cZ 89 140 [(.tmp 87),(.tmp 88),(.val (.val (.int .i64 7)))]]) (.skip)) <|
  ak [aa 90 0,aa 91 0,aH 92 2 5,bS 93 90,ao 94 5 93,(none,.op (.store 2 (.tmp 94) (.tmp 92))),bS 95 91,ao 96 7 95,(none,.op (.store 1 (.tmp 96) (.val (.val (.bool true)))))]) (.seq (ak [aa 98 1,ax 99 .eql 98 3,aa 97 99]) <|
  .cond (.tmp 97) (.seq (.seq (ak [aa 100 0,bS 101 100,ao 102 4 101,aq 103 102,ao 104 0 5,aq 105 104,aG 106 222 [103,105]]) <|
  .cond (.tmp 106) (ak [aa 107 0,aH 108 2 5,cZ 109 140 [(.tmp 107),(.tmp 108),(.val (.val (.int .i64 7)))]]) (.skip)) <|
  .seq (.region [] [⟨none,[aa 110 0,aa 111 0,bS 112 111,ao 113 4 112,aq 114 113,ao 115 0 5,aq 116 115,((some 117),.op (.bD 1 1 [(.val (.string ⟨#[]⟩))] [(0,(.tmp 116))])),((some 118),.op (.app 1 16 (.tmp 114) (.tmp 117))),bS 119 110,ao 120 4 119,(none,.op (.store 1 (.tmp 120) (.tmp 118)))]⟩]) <|
  ak [aa 121 0,aH 122 2 5,aG 123 223 [121,122]]) (.seq (ak [aa 7 0,bS 8 7,ao 9 0 8,aH 10 4 9,ao 11 0 5,aq 12 11,aG 13 152 [10,12],aa 6 13]) <|
  .seq (.seq (.region [] [⟨none,[aa 14 6,ax 15 .geq 14 0,aa 16 15]⟩,⟨(some (16,true)),[aa 17 0,bS 18 17,ao 19 0 18,ao 20 0 19,aq 21 20,aa 22 6,aZ 23 3 21 22,ao 24 1 23,aq 25 24,ax 26 .gtr 25 0]⟩,⟨none,[bB 27 16 26]⟩]) <|
  .cond (.tmp 27) (.seq (ak [aa 28 0,aH 29 2 5,cZ 30 140 [(.tmp 28),(.tmp 29),(.val (.val (.int .i64 7)))]]) <|
  .ret) (.skip)) <|
  .seq (ak [aa 31 0,aH 32 2 5,aG 33 223 [31,32],aa 6 33]) <|
  .seq (ak [aa 34 0,bS 35 34,ao 36 10 35,aq 37 36,ax 38 .eql 37 0]) <|
  .cond (.tmp 38) (ak [aa 39 0,bS 40 39,ao 41 0 40,ao 42 0 41,aq 43 42,aa 44 6,aa 45 0,bS 46 45,ao 47 0 46,ao 48 0 47,aq 49 48,aa 50 6,aa 51 0,bS 52 51,ao 53 8 52,aq 54 53,aa 55 1,ax 56 .sub 55 4,ax 57 .add 56 1,aZ 58 3 43 44,ao 59 1 58,(none,.op (.store 1 (.tmp 59) (.tmp 54))),aZ 60 3 49 50,ao 61 2 60,(none,.op (.store 1 (.tmp 61) (.tmp 57)))]) (.skip))))),
  [],124⟩
theorem lP:aP Tryz.prog 185 [5]=some iv:=by kernel_rfl
def tX:DC :=
  .seq (.seq (ak [aa 6 5,aa 7 0,aM 8 7,aO 9 .lss 6 8]) <|
  .cond (.tmp 9) (.skip) (.exit 0)) <|
  .seq (.block 1 (.seq (ak [aa 12 0,aa 13 5,aZ 14 1 12 13,aq 15 14,aa 16 1,((some 17),.op (.iO .eql (.tmp 15) (.tmp 16)))]) <|
  .cond (.tmp 17) (.seq (ak [aV 4 true]) <|
  .ret) (.skip))) <|
  ak [aa 10 5,ax 11 .add 10 1,aa 5 11]
def oB:DF:=⟨.seq (ak [aV 4 false]) <|
  .seq (.seq (ak [aF 5 0]) <|
  .block 0 (.loop tX)) <|
  .seq (ak [aV 4 false]) <|
  .ret,
  [.tmp 4],18⟩
theorem s6:aP Tryz.prog 222 []=some oB:=by kernel_rfl
def oc:DC :=
  .seq (.seq (.region [] [⟨none,[aa 6 4,aa 7 1,aM 8 7,aO 9 .lss 6 8,aa 10 9]⟩,⟨(some (10,true)),[aa 11 0,bS 12 11,ao 13 10 12,aq 14 13,ax 15 .eql 14 0]⟩,⟨none,[bB 16 10 15]⟩]) <|
  .cond (.tmp 16) (.skip) (.exit 0)) <|
  .seq (.block 1 (.seq (.region [] [⟨none,[aa 19 1,aa 20 4,aZ 21 5 19 20,ao 22 0 21,aH 23 2 22,((some 5),.op (.alloc [(.val (.string ⟨#[]⟩)),(.val (.complex .f64 0 0))])),(none,.op (.store 2 (.tmp 5) (.tmp 23)))]⟩]) <|
  .block 2 (.seq (ak [ao 38 0 5,aq 39 38,aG 40 154 [39],cb 41 40,aa 37 41]) <|
  .cond (.tmp 37) (ak [aa 42 0,aH 43 2 5,cZ 44 140 [(.tmp 42),(.tmp 43),(.val (.val (.int .i64 3)))]]) (.seq (ak [aa 46 0,bS 47 46,ao 48 0 47,aH 49 4 48,ao 50 0 5,aq 51 50,aG 52 152 [49,51],ax 53 .geq 52 0,aa 45 53]) <|
  .cond (.tmp 45) (ak [aa 54 0,aH 55 2 5,cZ 56 140 [(.tmp 54),(.tmp 55),(.val (.val (.int .i64 7)))]]) (.seq (ak [aa 58 0,bS 59 58,ao 60 0 59,aH 61 4 60,ao 62 0 5,aq 63 62,aG 64 139 [61,63],ax 65 .geq 64 0,aa 57 65]) <|
  .cond (.tmp 57) (.skip) (.seq (ak [aa 67 0,bS 68 67,ao 69 0 68,ao 70 1 69,aq 71 70,aM 72 71,ax 73 .eql 72 16,aa 66 73]) <|
  .cond (.tmp 66) (ak [aa 74 0,aH 75 2 5,cZ 76 140 [(.tmp 74),(.tmp 75),(.val (.val (.int .i64 5)))]]) (.region [] [⟨none,[aa 24 0,aa 25 0,bS 26 25,ao 27 0 26,ao 28 1 27,aq 29 28,ao 30 0 5,aq 31 30,((some 32),.op (.bD 1 1 [(.val (.string ⟨#[]⟩))] [(0,(.tmp 31))])),((some 33),.op (.app 1 16 (.tmp 29) (.tmp 32))),bS 34 24,ao 35 0 34,ao 36 1 35,(none,.op (.store 1 (.tmp 36) (.tmp 33)))]⟩]))))))) <|
  ak [aa 17 4,ax 18 .add 17 1,aa 4 18]
def jc:DF:=⟨.seq (ak [aF 4 0]) <|
  .block 0 (.loop oc),
  [],77⟩
theorem nR:aP Tryz.prog 137 []=some jc:=by kernel_rfl
def Ae:List (FuncId × DF):=[(49,m6),(94,lV),(134,lM),(177,nt),(212,oC),(213,nK),(214,nS),(215,kZ),(232,lB),(178,pE),(216,pB),(179,oz),(194,l9),(193,mh),(192,kU),(217,kS),(218,kR),(219,nC),(135,pJ),(183,iP),(182,iy),(220,iV),(221,jO),(181,iX),(184,iS),(180,ix),(95,me),(138,jQ),(151,ma),(154,m7),(140,jT),(186,iW),(139,ox),(152,nI),(223,ia),(136,ja),(185,iv),(222,oB),(137,jc)]
theorem Hy:th Tryz.prog Ae:=by
  intro p hp
  simp only[Ae,List.mem_cons,List.not_mem_nil,or_false] at hp
  rcases hp with rfl | rfl | rfl | rfl | rfl | rfl | rfl | rfl | rfl | rfl | rfl | rfl | rfl | rfl | rfl | rfl | rfl | rfl | rfl | rfl | rfl | rfl | rfl | rfl | rfl | rfl | rfl | rfl | rfl | rfl | rfl | rfl | rfl | rfl | rfl | rfl | rfl | rfl | rfl
  · exact ⟨_,rG⟩
  · exact ⟨_,qR⟩
  · exact ⟨_,pW⟩
  · exact ⟨_,rh⟩
  · exact ⟨_,sT⟩
  · exact ⟨_,ry⟩
  · exact ⟨_,r6⟩
  · exact ⟨_,pT⟩
  · exact ⟨_,pV⟩
  · exact ⟨_,tW⟩
  · exact ⟨_,ub⟩
  · exact ⟨_,sY⟩
  · exact ⟨_,qQ⟩
  · exact ⟨_,qP⟩
  · exact ⟨_,pO⟩
  · exact ⟨_,pv⟩
  · exact ⟨_,pg⟩
  · exact ⟨_,ri⟩
  · exact ⟨_,ug⟩
  · exact ⟨_,mr⟩
  · exact ⟨_,lR⟩
  · exact ⟨_,mA⟩
  · exact ⟨_,nX⟩
  · exact ⟨_,mz⟩
  · exact ⟨_,mH⟩
  · exact ⟨_,lQ⟩
  · exact ⟨_,qX⟩
  · exact ⟨_,nY⟩
  · exact ⟨_,qG⟩
  · exact ⟨_,rf⟩
  · exact ⟨_,od⟩
  · exact ⟨_,ml⟩
  · exact ⟨_,sP⟩
  · exact ⟨_,rj⟩
  · exact ⟨_,lj⟩
  · exact ⟨_,ng⟩
  · exact ⟨_,lP⟩
  · exact ⟨_,s6⟩
  · exact ⟨_,nR⟩
def DM (l:List Int):V:=.aK (l.map fun x=>[gy x])
theorem Ki (l:List Int):Tree (DM l):=fD _ _ fun x _ v hv=>by simp at hv; subst hv; exact .val _
def wh (g:an):V:=.bc [.agg (aw g),.val (.complex .f64 0 0),gi 0]
theorem Mv {l:List Int} {g:an} (h:we Tryz.prog Ae (fun _ _ _=>none) 49 [DM l]=some (wh g)):dW Tryz.prog 49 [DM l] (wh g) :=
  sB mixed Hy (L1 _) (by intro v hv; simp at hv; subst hv; exact Ki _) h
abbrev bY (κ:Type):=List (κ × V × Nat)
def bL {κ:Type} (key:κ→Value) (m:bY κ):List (V × V × Nat):=m.map fun x=>(.val (key x.1),x.2.1,x.2.2)
def getM {κ:Type} [BEq κ] (m:bY κ) (k:κ):Option V:=(m.find? fun x=>k == x.1).map (·.2.1)
def bR {κ:Type} [BEq κ] (k:κ) (v:V) (c:Nat):bY κ→bY κ
  | []=>[(k,v,c)]
  | x :: r=>if k == x.1 then (k,v,x.2.2) :: r else x :: bR k v c r
structure xU {κ:Type} [BEq κ] (P:Program) (kt:TypeId) (key:κ→Value):Prop where
  ty:∃ d,P.underlying kt=some d∧(∀ a b,Instr.sameNow d (key a) (key b)=some (a == b))∧(∀ a e,bq P (Instr.checkKey e 10000 kt (key a))=some ())
  bits:∀ a b,(a == b)=true→Instr.sameBits 10000 (key b) (key a)=true
theorem rb {κ:Type} (key:κ→Value):∀ m:bY κ,ik (bL key m)=some (m.map fun x=>{ key:=key x.1,val:=.nilFunc,born:=x.2.2 })
  | []=>rfl
  | x :: r=>by
    have:=rb key r
    simp only[bL] at this
    simp[bL,ik,cG,this]
def iZ {κ:Type} [BEq κ] (k:κ):bY κ→Option Nat
  | []=>none
  | x :: r=>if k == x.1 then some 0 else (iZ k r).map (·+1)
theorem wD {κ:Type} [BEq κ] {key:κ→Value} {d:TypeDesc} (h:∀ a b,Instr.sameNow d (key a) (key b)=some (a == b)) (k:κ):∀ (m:bY κ) (i:Nat),
    Instr.findNow d (key k) (m.map fun x=>{ key:=key x.1,val:=.nilFunc,born:=x.2.2 }) i=some ((iZ k m).map fun j=>(i+j,.nilFunc))
  | [],i=>rfl
  | x :: r,i=>by
    simp only[List.map_cons,Instr.findNow,h,iZ]
    cases hk:k == x.1 with
    | true=>simp
    | false =>
      simp only[wD h k r (i+1),Bool.false_eq_true,if_false,Option.map_map]
      congr 2
      funext j
      simp only[Function.comp]
      congr 1
      omega
theorem vr {κ:Type} [BEq κ] {P:Program} {kt:TypeId} {key:κ→Value} (h:xU P kt key) (k:κ) (e:Bool) (m:bY κ):lI P kt (.val (key k)) e (bL key m)=some (iZ k m):=by
  obtain ⟨d,hd,hn,hc⟩:=h.ty
  have hu:bq P (underlying kt)=some d:=dP hd
  simp only[lI,cG,rb,bg,hc,Option.bind_some]
  have:bq P (Instr.findKey kt (key k) (m.map fun x=>{ key:=key x.1,val:=.nilFunc,born:=x.2.2 }))=some ((iZ k m).map fun j=>(0+j,.nilFunc)):=by
    unfold Instr.findKey
    rw[bg,hu,Option.bind_some,wD hn]
    rfl
  rw[this]
  cases iZ k m with
  | none=>rfl
  | some j=>simp
theorem zJ {P:Program} {kt:TypeId} {d:TypeDesc} (h:P.underlying kt=some d) (hd:match d with | .int _ | .string | .bool=>True | _=>False) (e:Bool) (n:Nat) (v:Value):bq P (Instr.checkKey e (n+1) kt v)=some ():=by
  unfold Instr.checkKey
  rw[bg,dP h,Option.bind_some]
  cases d <;> first | exact hd.elim | rfl
theorem jg {P:Program} {kt:TypeId} (k:IntKind) (h:P.underlying kt=some (.int k)):xU P kt (Value.int k) where
  ty:=⟨_,h,fun a b=>by simp[Instr.sameNow],fun a e=>zJ h trivial e 9999 _⟩
  bits:=fun a b hab=>by
    have:a=b:=by simpa using hab
    subst this
    simp[Instr.sameBits]
theorem sq {κ:Type} [BEq κ] {key:κ→Value} (k:κ):∀ m:bY κ,match iZ k m with
    | some i=>∃ x,m[i]?=some x∧(k == x.1)=true∧getM m k=some x.2.1∧(bL key m)[i]?=some (.val (key x.1),x.2.1,x.2.2)∧∀ v c,(bL key m).set i (.val (key k),v,x.2.2)=bL key (bR k v c m)∧(bR k v c m).length=m.length
    | none=>getM m k=none∧∀ v c,bL key m ++ [(.val (key k),v,c)]=bL key (bR k v c m)∧(bR k v c m).length=m.length+1
  | []=>⟨rfl,fun v c=>⟨rfl,rfl⟩⟩
  | x :: r=>by
    have ih:=sq (key:=key) k r
    simp only[iZ]
    cases hk:k == x.1 with
    | true=>exact ⟨x,rfl,hk,by simp[getM,hk],rfl,fun v c=>by simp[bR,hk,bL]⟩
    | false =>
      simp only[Bool.false_eq_true,if_false]
      cases hi:iZ k r with
      | some i =>
        rw[hi] at ih
        obtain ⟨y,h1,h2,h3,h4,h5⟩:=ih
        refine ⟨y,by simpa using h1,h2,by simpa [getM,hk] using h3,by simpa [bL] using h4,fun v c=>?_⟩
        obtain ⟨g1,g2⟩:=h5 v c
        exact ⟨by simp only[bL] at g1 ⊢; simp[bR,hk,g1],by simp[bR,hk,g2]⟩
      | none =>
        rw[hi] at ih
        refine ⟨by simpa [getM,hk] using ih.1,fun v c=>?_⟩
        obtain ⟨g1,g2⟩:=ih.2 v c
        exact ⟨by simp only[bL] at g1 ⊢; simp[bR,hk,g1],by simp[bR,hk,g2]⟩
section
variable {P:Program} {T:Env} {H:View} {κ:Type} [BEq κ] {key:κ→Value} {kt et t ty:TypeId}
theorem vU {K:V→View→Prop} {w:cp (T,H,K)} {x i:Operand} {z:V} {id c:Nat} {m:bY κ} {k:κ} (hm:eR P t=some (kt,et)) (hz:zeroV P et=some z) (hk:xU P kt key)
    (hx:ev T x=.mp id) (hi:ev T i=.val (key k)) (hH:H id=.map (bL key m) c) (h:K ((getM m k).getD z) H):m0 P (.lookup t x i false) ty T H K w:=by
  intro n _
  have hf:=vr hk k (bL key m).isEmpty m
  have hg:=sq (key:=key) k m
  refine ⟨(getM m k).getD z,.none,[id],?_,h⟩
  simp only[sI,bT,oper,eQ,hm,hz,hx,hi,hH,hf]
  cases hj:iZ k m with
  | some j =>
    rw[hj] at hg
    obtain ⟨y,h1,h2,h3,h4,_⟩:=hg
    simp[h4,h3]
  | none =>
    rw[hj] at hg
    simp[hg.1]
theorem Me {K:V→View→Prop} {w:cp (T,H,K)} {x i:Operand} {z:V} {id c:Nat} {m:bY κ} {k:κ} (hm:eR P t=some (kt,et)) (hz:zeroV P et=some z) (hk:xU P kt key)
    (hx:ev T x=.mp id) (hi:ev T i=.val (key k)) (hH:H id=.map (bL key m) c) (h:K (.bc [(getM m k).getD z,.val (.bool (getM m k).isSome)]) H):m0 P (.lookup t x i true) ty T H K w:=by
  intro n _
  have hf:=vr hk k (bL key m).isEmpty m
  have hg:=sq (key:=key) k m
  refine ⟨_,.none,[id],?_,h⟩
  simp only[sI,bT,oper,eQ,hm,hz,hx,hi,hH,hf]
  cases hj:iZ k m with
  | some j =>
    rw[hj] at hg
    obtain ⟨y,h1,h2,h3,h4,_⟩:=hg
    simp[h4,h3]
  | none =>
    rw[hj] at hg
    simp[hg.1]
theorem Lp (hk:xU P kt key) (k k':κ) (h:(k == k')=true):sameKey (.val (key k')) (.val (key k))=true:=by
  simp only[sameKey,cG]; exact hk.bits _ _ h
theorem sd {K:V→View→Prop} {w:cp (T,H,K)} {x i y:Operand} {id c:Nat} {m:bY κ} {k:κ} {v:V} (hm:eR P t=some (kt,et)) (hk:xU P kt key)
    (hx:ev T x=.mp id) (hi:ev T i=.val (key k)) (hy:ev T y=v) (hH:H id=.map (bL key m) c)
    (h:∀ c',K .any (H.set id (.map (bL key (bR k v c m)) c'))):m0 P (.mapUpdate t x i y) ty T H K w:=by
  intro n _
  have hf:=vr hk k false m
  have hg:=sq (key:=key) k m
  cases hj:iZ k m with
  | some j =>
    rw[hj] at hg hf
    obtain ⟨z,h1,h2,h3,h4,h5⟩:=hg
    refine ⟨.any,.eC id (.map ((bL key m).set j (.val (key k),v,z.2.2)) c),[id],?_,?_⟩
    · simp only[sI,bT,oper,fa,hm,hx,hi,hy,hH,hf,h4,Lp hk k z.1 h2,if_true]
    · rw[(h5 v c).1]; exact h c
  | none =>
    rw[hj] at hg hf
    refine ⟨.any,.eC id (.map (bL key m ++ [(.val (key k),v,c)]) (c+1)),[id],?_,?_⟩
    · simp only[sI,bT,oper,fa,hm,hx,hi,hy,hH,hf]
    · rw[(hg.2 v c).1]; exact h (c+1)
theorem NJ {P:Program} {T:Env} {H:View} {t ty:TypeId} {x i y:Operand} {K:V→View→Prop} {w:cp (T,H,K)} : m0 P (.insert t x i y) ty T H K w=m0 P (.mapUpdate t x i y) ty T H K w:=propext Iff.rfl
omit [BEq κ] in
theorem Nh {K:V→View→Prop} {w:cp (T,H,K)} {x:Operand} {id c:Nat} {m:bY κ} (hm:eR P t=some (kt,et)) (hx:ev T x=.mp id) (hH:H id=.map (bL key m) c) (h:K (aj m.length) H) :
    m0 P (.call { callee:=.builtin .len,args:=#[x],argTypes:=#[t] }) ty T H K w:=by
  intro n _
  have hu:∃ a b,P.underlying t=some (.map a b):=by
    unfold eR at hm
    split at hm
    · rename_i a b h1; exact ⟨a,b,h1⟩
    · simp at hm
  obtain ⟨a,b,hu⟩:=hu
  refine ⟨aj m.length,.none,[id],?_,h⟩
  have hl:(bL key m).length=m.length:=by simp[bL]
  simp only[sI,bT,oper,List.size_toArray,List.length_cons,List.length_nil,qV,hu,hx,hH,hl]
  simp[hu,hx,hH,hl,qV]
end
theorem x3 {κ:Type} [BEq κ] [LawfulBEq κ] (k k':κ) (v:V) (c:Nat):∀ m:bY κ,getM (bR k v c m) k'=if k' == k then some v else getM m k'
  | []=>by
    by_cases h:k'=k
    · subst h; simp[bR,getM]
    · simp[bR,getM,h]
  | x :: r=>by
    have ih:=x3 k k' v c r
    simp only[bR]
    by_cases hk:k=x.1
    · by_cases h:k'=k
      · subst h; simp[hk,getM]
      · have:¬ k'=x.1:=fun e=>h (e.trans hk.symm)
        simp[hk,getM,this]
    · simp only[beq_iff_eq,hk,if_false]
      by_cases h:k'=x.1
      · have:¬ k'=k:=fun e=>hk (e.symm.trans h)
        simp[getM,h]
        subst h
        simp[this]
      · simp only[getM,List.find?_cons,beq_eq_false_iff_ne.2 h] at ih ⊢
        exact ih
def dt {κ β:Type} [BEq κ] (a:List (κ × β)) (k:κ):Option β:=(a.find? fun x=>k == x.1).map (·.2)
def iH {κ β:Type} [BEq κ] (k:κ) (v:β):List (κ × β)→List (κ × β)
  | []=>[(k,v)]
  | x :: r=>if k == x.1 then (k,v) :: r else x :: iH k v r
def ll {κ β:Type} (encV:β→V):List (κ × β)→bY κ→Prop
  | [],[]=>True
  | x :: a,y :: m=>y.1=x.1∧y.2.1=encV x.2∧ll encV a m
  | _,_=>False
theorem ll.get {κ β:Type} [BEq κ] {encV:β→V} (k:κ):∀ {a:List (κ × β)} {m:bY κ},ll encV a m→getM m k=(dt a k).map encV
  | [],[],_=>rfl
  | x :: a,y :: m,⟨h1,h2,h3⟩=>by
    have ih:=ll.get k h3
    simp only[getM,dt,List.find?_cons,h1] at ih ⊢
    cases k == x.1 with
    | true=>simp[h2]
    | false=>simpa using ih
theorem ll.put {κ β:Type} [BEq κ] {encV:β→V} (k:κ) (v:β) (c:Nat):∀ {a:List (κ × β)} {m:bY κ},ll encV a m→ll encV (iH k v a) (bR k (encV v) c m)
  | [],[],_=>⟨rfl,rfl,trivial⟩
  | x :: a,y :: m,⟨h1,h2,h3⟩=>by
    have ih:=ll.put k v c h3
    simp only[iH,bR,h1]
    cases k == x.1 with
    | true=>exact ⟨rfl,rfl,h3⟩
    | false=>exact ⟨h1,h2,ih⟩
theorem ll.len {κ β:Type} {encV:β→V} : ∀ {a:List (κ × β)} {m:bY κ},ll encV a m→m.length=a.length
  | [],[],_=>rfl
  | x :: a,y :: m,⟨_,_,h3⟩=>by simp[ll.len h3]
theorem Ey {κ β:Type} [BEq κ] [LawfulBEq κ] (k k':κ) (v:β):∀ a:List (κ × β),dt (iH k v a) k'=if k' == k then some v else dt a k'
  | []=>by
    by_cases h:k'=k
    · subst h; simp[iH,dt]
    · simp[iH,dt,h]
  | x :: r=>by
    have ih:=Ey k k' v r
    simp only[iH]
    by_cases hk:k=x.1
    · by_cases h:k'=k
      · subst h; simp[hk,dt]
      · have:¬ k'=x.1:=fun e=>h (e.trans hk.symm)
        simp[hk,dt,this]
    · simp only[beq_iff_eq,hk,if_false]
      by_cases h:k'=x.1
      · have:¬ k'=k:=fun e=>hk (e.symm.trans h)
        simp[dt,h]
        subst h
        simp[this]
      · simp only[dt,List.find?_cons,beq_eq_false_iff_ne.2 h] at ih ⊢
        exact ih
def FA (n k:Nat) (J:Nat→Env→View→Prop) (T:Env) (H:View):Prop:=∃ i,i+k=n∧J i T H
theorem bK.up {P:Program} {T:Env} {H:View} {c:SC} {Q:Exit→Env→View→Prop} {v:cp (T,H,Q)} (n:Nat) (J:Nat→Env→View→Prop) (h0:J 0 T H)
    (hs:∀ i k T H,i+k=n→J i T H→wS P c T H fun e T' H'=>wU e (∃ k',k' < k∧FA n k' J T' H') (Q e T' H')):bK P c T H Q v :=
  bK.intro (fun k T H=>FA n k J T H) n ⟨0,by omega,h0⟩ fun k T H ⟨i,hk,hj⟩=>hs i k T H hk hj
theorem bE {n i k:Nat} {J:Nat→Env→View→Prop} {T:Env} {H:View} (hk:i+k=n) (hlt:i < n) (hJ:J (i+1) T H):∃ k',k' < k∧FA n k' J T H:=⟨k - 1,by omega,i+1,by omega,hJ⟩
end Gv
