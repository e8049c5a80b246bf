/-
  Part 8 of the proof: what the machine does and what the functions answer.
  Conditions: those that each lemma names.
-/
import Derived.Test.YtihmlbdfcmfbdaaGreatSGzA5G
set_option linter.unusedSimpArgs false
set_option linter.unusedVariables false
set_option maxRecDepth 100000
namespace Gv
open Go Go.Proofs
def nL:DF:=⟨.seq (ak [((some 2),.op (.alloc [(.emp 1),(.emp 1),(.emp 1),(.val (.int .i64 0))])),((some 3),.op (.bk (.val (.val (.complex .f64 0 0))))),aJ 4 0]) <|
  .seq (ak [aa 9 0,aH 10 94 [9],aa 8 10,cB 11 0 8,cB 12 1 8,cB 13 2 8,((some 5),.op (.alloc [(.emp 1),(.emp 1)])),(none,.op (.store 2 (.tmp 5) (.tmp 11))),aa 6 12,aa 7 13]) <|
  .seq (.seq (ak [aa 14 7,az 15 .neq 14 0]) <|
  .cond (.tmp 15) (.seq (ak [((some 16),.op (.build [(.emp 1),(.emp 1),(.emp 1),(.val (.int .i64 0))] [])),aa 17 6,aa 18 7,(none,.op (.store 4 (.tmp 2) (.tmp 16))),aa 3 17,aa 4 18]) <|
  .ret) (.skip)) <|
  .seq (ak [aK 19 2 5,aH 20 95 [19],cB 21 0 20,cB 22 1 20,cB 23 2 20,(none,.op (.store 4 (.tmp 2) (.tmp 21))),aa 3 22,aa 4 23]) <|
  .ret,
  [.cell 2 (some 4),.tmp 3,.tmp 4],24⟩
theorem r7:aT Tryz.prog 49 []=some nL:=by kernel_rfl
def l0:DF:=⟨.seq (ak [((some 2),.op (.alloc [(.emp 1),(.emp 1)])),((some 3),.op (.bk (.val (.val (.complex .f64 0 0))))),aJ 4 0]) <|
  .seq (ak [aa 9 0,aH 10 134 [9],aa 8 10,cB 11 0 8,cB 12 1 8,cB 13 2 8,aa 5 11,aa 6 12,aa 7 13]) <|
  .seq (.seq (ak [aa 14 7,az 15 .neq 14 0]) <|
  .cond (.tmp 15) (.seq (ak [((some 16),.op (.build [(.emp 1),(.emp 1)] [])),aa 17 6,aa 18 7,(none,.op (.store 2 (.tmp 2) (.tmp 16))),aa 3 17,aa 4 18]) <|
  .ret) (.skip)) <|
  .seq (ak [aa 19 5,aa 20 6,aH 21 135 [19,20],cB 22 0 21,cB 23 1 21,cB 24 2 21,(none,.op (.store 2 (.tmp 2) (.tmp 22))),aa 3 23,aa 4 24]) <|
  .ret,
  [.cell 2 (some 2),.tmp 3,.tmp 4],25⟩
theorem qI:aT Tryz.prog 94 []=some l0:=by kernel_rfl
def qZ:DC :=
  .seq (.seq (.region [] [⟨none,[aa 16 6,aa 17 0,aR 18 17,aS 19 .lss 16 18,aa 20 19]⟩,⟨(some (20,true)),[aa 21 7,az 22 .lss 21 2]⟩,⟨none,[bz 23 20 22]⟩]) <|
  .cond (.tmp 23) (.skip) (.exit 0)) <|
  .block 1 (.seq (ak [aa 25 0,aa 26 6,aH 27 177 [25,26],aa 24 27,cB 28 0 24,cB 29 1 24,aa 8 28,aa 9 29]) <|
  .seq (.seq (ak [aa 30 8,az 31 .lss 30 0]) <|
  .cond (.tmp 31) (.seq (ak [aa 32 0,aa 33 6,aH 34 178 [32,33],((some 2),.op (.bk (.val (.emp 1)))),aa 3 34,aJ 4 4]) <|
  .ret) (.skip)) <|
  .seq (.seq (ak [aa 35 9]) <|
  .cond (.tmp 35) (.seq (ak [aa 36 8,aa 6 36]) <|
  .exit 1) (.skip)) <|
  .seq (.region [] [⟨none,[aa 38 0,aa 39 6,aH 40 179 [38,39],aa 37 40,cB 41 0 37,cB 42 1 37,cB 43 2 37,((some 10),.op (.alloc [(.val (.int .i64 0)),(.val (.string ⟨#[]⟩)),(.val (.complex .f64 0 0))])),(none,.op (.store 3 (.tmp 10) (.tmp 41))),aa 11 42,aa 12 43]⟩]) <|
  .seq (.seq (ak [aa 44 12,az 45 .neq 44 0]) <|
  .cond (.tmp 45) (.seq (ak [au 46 2 10,aw 47 46,aa 48 12,((some 2),.op (.bk (.val (.emp 1)))),aa 3 47,aa 4 48]) <|
  .ret) (.skip)) <|
  .seq (.seq (ak [au 49 0 10,aw 50 49,az 51 .eql 50 9]) <|
  .cond (.tmp 51) (ak [aa 52 7,az 53 .add 52 1,aa 7 53]) (.skip)) <|
  .region [] [⟨none,[aa 54 5,aK 55 3 10,((some 56),.op (.bF 1 3 [(.val (.int .i64 0)),(.val (.string ⟨#[]⟩)),(.val (.complex .f64 0 0))] [(0,(.tmp 55))])),((some 57),.op (.app 3 40 (.tmp 54) (.tmp 56))),aa 58 11,aa 5 57,aa 6 58]⟩])
def kX:DF:=⟨.seq (ak [((some 2),.op (.bk (.val (.emp 1)))),((some 3),.op (.bk (.val (.val (.complex .f64 0 0))))),aJ 4 0]) <|
  .seq (.seq (ak [aa 13 0,aR 14 13,az 15 .gtr 14 4000]) <|
  .cond (.tmp 15) (.seq (ak [((some 2),.op (.bk (.val (.emp 1)))),((some 3),.op (.bk (.val (.val (.complex .f64 0 0))))),aJ 4 5]) <|
  .ret) (.skip)) <|
  .seq (ak [((some 5),.op (.bk (.val (.emp 1))))]) <|
  .seq (ak [aJ 6 0,aJ 7 0]) <|
  .seq (.block 0 (.loop qZ)) <|
  .seq (ak [aa 59 5,aa 60 0,aa 61 0,aR 62 61,aH 63 178 [60,62],aa 2 59,aa 3 63,aJ 4 0]) <|
  .ret,
  [.tmp 2,.tmp 3,.tmp 4],64⟩
theorem pS:aT Tryz.prog 134 []=some kX:=by kernel_rfl
def m8:DF:=⟨.seq (ak [aJ 4 0,aY 5 false]) <|
  .seq (.block 0 (.seq (.region [] [⟨none,[aa 7 0,aa 8 1,aZ 9 1 7 8,aw 10 9,((some 11),.op (.arith .eql (.tmp 10) (.val (.val (.int .u8 32))))),aa 12 11]⟩,⟨(some (12,false)),[aa 13 0,aa 14 1,aZ 15 1 13 14,aw 16 15,((some 17),.op (.arith .eql (.tmp 16) (.val (.val (.int .u8 9)))))]⟩,⟨none,[bC 18 12 17,aa 19 18]⟩,⟨(some (19,false)),[aa 20 0,aa 21 1,aZ 22 1 20 21,aw 23 22,((some 24),.op (.arith .eql (.tmp 23) (.val (.val (.int .u8 10)))))]⟩,⟨none,[bC 25 19 24,aa 26 25]⟩,⟨(some (26,false)),[aa 27 0,aa 28 1,aZ 29 1 27 28,aw 30 29,((some 31),.op (.arith .eql (.tmp 30) (.val (.val (.int .u8 13)))))]⟩,⟨none,[bC 32 26 31,aa 6 32]⟩]) <|
  .cond (.tmp 6) (.seq (ak [aa 33 1,az 34 .add 33 1,aa 4 34,aY 5 true]) <|
  .ret) (.seq (.region [] [⟨none,[aa 36 0,aa 37 1,cX 38 212 [(.tmp 36),(.tmp 37),(.val (.val (.string ⟨#[47,42]⟩)))],aa 35 38]⟩]) <|
  .cond (.tmp 35) (.seq (.region [] [⟨none,[aa 39 0,aa 40 1,az 41 .add 40 2,cX 42 213 [(.tmp 39),(.tmp 41),(.val (.val (.string ⟨#[42,47]⟩)))],aa 4 42,aY 5 true]⟩]) <|
  .ret) (.seq (.region [] [⟨none,[aa 44 0,aa 45 1,cX 46 212 [(.tmp 44),(.tmp 45),(.val (.val (.string ⟨#[47,47]⟩)))],aa 43 46]⟩]) <|
  .cond (.tmp 43) (.seq (ak [aa 47 0,aa 48 1,aH 49 214 [47,48],aa 4 49,aY 5 true]) <|
  .ret) (.seq (.region [] [⟨none,[aa 51 0,aa 52 1,cX 53 212 [(.tmp 51),(.tmp 52),(.val (.val (.string ⟨#[37,123]⟩)))],aa 50 53]⟩]) <|
  .cond (.tmp 50) (.seq (.region [] [⟨none,[aa 54 0,aa 55 1,az 56 .add 55 2,cX 57 213 [(.tmp 54),(.tmp 56),(.val (.val (.string ⟨#[37,125]⟩)))],aa 4 57,aY 5 true]⟩]) <|
  .ret) (.seq (ak [aa 59 0,aa 60 1,aZ 61 1 59 60,aw 62 61,((some 63),.op (.arith .eql (.tmp 62) (.val (.val (.int .u8 60))))),aa 58 63]) <|
  .cond (.tmp 58) (.seq (.region [] [⟨none,[aa 64 0,aa 65 0,aa 66 1,aH 67 214 [65,66],((some 68),.op (.slice 1 (.tmp 64) none (some (.tmp 67)))),aa 69 1,az 70 .add 69 1,cX 71 213 [(.tmp 68),(.tmp 70),(.val (.val (.string ⟨#[62]⟩)))],aa 4 71,aY 5 true]⟩]) <|
  .ret) (.seq (ak [aa 73 0,aa 74 1,aZ 75 1 73 74,aw 76 75,((some 77),.op (.arith .eql (.tmp 76) (.val (.val (.int .u8 123))))),aa 72 77]) <|
  .cond (.tmp 72) (.seq (ak [aa 78 0,aa 79 1,aH 80 215 [78,79],aa 4 80,aY 5 true]) <|
  .ret) (.skip)))))))) <|
  .seq (ak [aa 81 1,aa 4 81,aY 5 false]) <|
  .ret,
  [.tmp 4,.tmp 5],82⟩
theorem rV:aT Tryz.prog 177 []=some m8:=by kernel_rfl
def om:DF:=⟨.seq (ak [aY 6 false]) <|
  .seq (.region [] [⟨none,[aa 7 1,aa 8 2,((some 9),.op (.gB (.tmp 8))),aS 10 .add 7 9,aa 11 0,aR 12 11,aS 13 .leq 10 12,aa 14 13]⟩,⟨(some (14,true)),[aa 15 0,aa 16 1,aa 17 1,aa 18 2,((some 19),.op (.gB (.tmp 18))),aS 20 .add 17 19,((some 21),.op (.slice 1 (.tmp 15) (some (.tmp 16)) (some (.tmp 20)))),((some 22),.op (.old (.convert 91 9 (.tmp 21)) 9)),aa 23 2,((some 24),.op (.iO .eql (.tmp 22) (.tmp 23)))]⟩,⟨none,[bz 25 14 24,aa 6 25]⟩]) <|
  .ret,
  [.tmp 6],26⟩
theorem sU:aT Tryz.prog 212 []=some om:=by kernel_rfl
def sk:DC :=
  .seq (.seq (ak [aa 7 1,aa 8 0,aR 9 8,aS 10 .lss 7 9]) <|
  .cond (.tmp 10) (.skip) (.exit 0)) <|
  .block 1 (.seq (.seq (ak [aa 11 0,aa 12 1,aa 13 2,aH 14 212 [11,12,13]]) <|
  .cond (.tmp 14) (.seq (ak [aa 15 1,aa 16 2,((some 17),.op (.gB (.tmp 16))),aS 18 .add 15 17,aa 6 18]) <|
  .ret) (.skip)) <|
  ak [aa 19 1,az 20 .add 19 1,aa 1 20])
def nf:DF:=⟨.seq (ak [aJ 6 0]) <|
  .seq (.block 0 (.loop sk)) <|
  .seq (ak [aJ 6 (-1)]) <|
  .ret,
  [.tmp 6],21⟩
theorem rS:aT Tryz.prog 213 []=some nf:=by kernel_rfl
def sA:DC :=
  .seq (.seq (.region [] [⟨none,[aa 5 1,aa 6 0,aR 7 6,aS 8 .lss 5 7,aa 9 8]⟩,⟨(some (9,true)),[aa 10 0,aa 11 1,aZ 12 1 10 11,aw 13 12,((some 14),.op (.arith .neq (.tmp 13) (.val (.val (.int .u8 10)))))]⟩,⟨none,[bz 15 9 14]⟩]) <|
  .cond (.tmp 15) (.skip) (.exit 0)) <|
  .block 1 (ak [aa 16 1,az 17 .add 16 1,aa 1 17])
def nD:DF:=⟨.seq (ak [aJ 4 0]) <|
  .seq (.block 0 (.loop sA)) <|
  .seq (ak [aa 18 1,aa 4 18]) <|
  .ret,
  [.tmp 4],19⟩
theorem rK:aT Tryz.prog 214 []=some nD:=by kernel_rfl
def qT:DC :=
  .seq (.seq (.region [] [⟨none,[aa 6 1,az 7 .geq 6 0,aa 8 7]⟩,⟨(some (8,true)),[aa 9 1,aa 10 0,aR 11 10,aS 12 .lss 9 11]⟩,⟨none,[bz 13 8 12]⟩]) <|
  .cond (.tmp 13) (.skip) (.exit 0)) <|
  .block 1 (.seq (.seq (ak [aa 14 0,aa 15 1,aZ 16 1 14 15,aw 17 16]) <|
  .block 2 (.seq (ak [((some 21),.op (.arith .eql (.tmp 17) (.val (.val (.int .u8 123))))),aa 20 21]) <|
  .cond (.tmp 20) (.seq (ak [aa 22 5,az 23 .add 22 1,aa 5 23]) <|
  ak [aa 24 1,az 25 .add 24 1,aa 1 25]) (.seq (ak [((some 27),.op (.arith .eql (.tmp 17) (.val (.val (.int .u8 125))))),aa 26 27]) <|
  .cond (.tmp 26) (.seq (ak [aa 28 5,az 29 .sub 28 1,aa 5 29]) <|
  ak [aa 30 1,az 31 .add 30 1,aa 1 31]) (.seq (.seq (ak [((some 33),.op (.arith .eql (.tmp 17) (.val (.val (.int .u8 39))))),aa 32 33]) <|
  .cond (.tmp 32) (.skip) (ak [((some 34),.op (.arith .eql (.tmp 17) (.val (.val (.int .u8 34))))),aa 32 34])) <|
  .cond (.tmp 32) (ak [aa 35 0,aa 36 1,aH 37 232 [35,36],aa 1 37]) (ak [aa 18 1,az 19 .add 18 1,aa 1 19]))))) <|
  .seq (.region [] [⟨none,[aa 38 5,az 39 .eql 38 0,aa 40 39]⟩,⟨(some (40,true)),[aa 41 1,az 42 .geq 41 0]⟩,⟨none,[bz 43 40 42]⟩]) <|
  .cond (.tmp 43) (.seq (ak [aa 44 1,aa 4 44]) <|
  .ret) (.skip))
def lf:DF:=⟨.seq (ak [aJ 4 0]) <|
  .seq (ak [aJ 5 0]) <|
  .seq (.block 0 (.loop qT)) <|
  .seq (ak [aJ 4 (-1)]) <|
  .ret,
  [.tmp 4],45⟩
theorem pT:aT Tryz.prog 215 []=some lf:=by kernel_rfl
def qN:DC :=
  .seq (.seq (ak [aa 12 1,aa 13 0,aR 14 13,aS 15 .lss 12 14]) <|
  .cond (.tmp 15) (.skip) (.exit 0)) <|
  .block 1 (.seq (.seq (ak [aa 16 0,aa 17 1,aZ 18 1 16 17,aw 19 18,aa 20 5,aS 21 .eql 19 20]) <|
  .cond (.tmp 21) (.seq (ak [aa 22 1,az 23 .add 22 1,aa 4 23]) <|
  .ret) (.skip)) <|
  .seq (.seq (ak [aa 24 0,aa 25 1,aZ 26 1 24 25,aw 27 26,((some 28),.op (.arith .eql (.tmp 27) (.val (.val (.int .u8 92)))))]) <|
  .cond (.tmp 28) (ak [aa 29 1,az 30 .add 29 1,aa 1 30]) (.skip)) <|
  ak [aa 31 1,az 32 .add 31 1,aa 1 32])
def k7:DF:=⟨.seq (ak [aJ 4 0]) <|
  .seq (ak [aa 6 0,aa 7 1,aZ 8 1 6 7,aw 9 8,aa 5 9]) <|
  .seq (ak [aa 10 1,az 11 .add 10 1,aa 1 11]) <|
  .seq (.block 0 (.loop qN)) <|
  .seq (ak [aJ 4 (-1)]) <|
  .ret,
  [.tmp 4],33⟩
theorem pR:aT Tryz.prog 232 []=some k7:=by kernel_rfl
def ur:DC :=
  .seq (.seq (ak [aa 16 7,aa 17 1,aS 18 .lss 16 17]) <|
  .cond (.tmp 18) (.skip) (.exit 0)) <|
  .seq (.block 1 (.seq (ak [aa 21 6,az 22 .add 21 1,aa 6 22]) <|
  .seq (ak [aa 23 0,aa 24 7,aZ 25 1 23 24,aw 26 25,((some 27),.op (.arith .eql (.tmp 26) (.val (.val (.int .u8 10)))))]) <|
  .cond (.tmp 27) (ak [aa 28 5,az 29 .add 28 1,aa 5 29,aJ 6 1]) (.skip))) <|
  ak [aa 19 7,az 20 .add 19 1,aa 7 20]
def o8:DF:=⟨.seq (ak [((some 4),.op (.bk (.val (.val (.complex .f64 0 0)))))]) <|
  .seq (.seq (.region [] [⟨none,[aa 8 1,az 9 .lss 8 0,aa 10 9]⟩,⟨(some (10,false)),[aa 11 1,aa 12 0,aR 13 12,aS 14 .gtr 11 13]⟩,⟨none,[bC 15 10 14]⟩]) <|
  .cond (.tmp 15) (.seq (ak [((some 4),.op (.bk (.val (.val (.complex .f64 0 0)))))]) <|
  .ret) (.skip)) <|
  .seq (ak [aJ 5 1,aJ 6 1]) <|
  .seq (.seq (ak [aJ 7 0]) <|
  .block 0 (.loop ur)) <|
  .seq (ak [aa 30 5,aa 31 6,aH 32 216 [30,31],aa 4 32]) <|
  .ret,
  [.tmp 4],33⟩
theorem uc:aT Tryz.prog 178 []=some o8:=by kernel_rfl
def pE:DF:=⟨.seq (ak [((some 4),.op (.bk (.val (.val (.complex .f64 0 0)))))]) <|
  .seq (.seq (.region [] [⟨none,[aa 5 0,az 6 .lss 5 1,aa 7 6]⟩,⟨(some (7,false)),[aa 8 0,az 9 .gtr 8 1073741824]⟩,⟨none,[bC 10 7 9,aa 11 10]⟩,⟨(some (11,false)),[aa 12 1,az 13 .lss 12 1]⟩,⟨none,[bC 14 11 13,aa 15 14]⟩,⟨(some (15,false)),[aa 16 1,az 17 .gtr 16 1073741824]⟩,⟨none,[bC 18 15 17]⟩]) <|
  .cond (.tmp 18) (.seq (ak [((some 4),.op (.bk (.val (.val (.complex .f64 0 0)))))]) <|
  .ret) (.skip)) <|
  .seq (ak [aa 19 0,((some 20),.op (.old (.convert 3 275 (.tmp 19)) 275)),aa 21 1,((some 22),.op (.old (.convert 3 275 (.tmp 21)) 275)),((some 23),.op (.old (.call { callee:=.builtin .complex,args:=#[(.tmp 20),(.tmp 22)],argTypes:=#[275,275] }) 88)),aa 4 23]) <|
  .ret,
  [.tmp 4],24⟩
theorem ue:aT Tryz.prog 216 []=some pE:=by kernel_rfl
def tW:DC :=
  .seq (.seq (.region [] [⟨none,[aa 27 9,aa 28 0,aR 29 28,aS 30 .lss 27 29,aa 31 30]⟩,⟨(some (31,true)),[aa 32 0,aa 33 9,aZ 34 1 32 33,aw 35 34,aH 36 194 [35]]⟩,⟨none,[bz 37 31 36]⟩]) <|
  .cond (.tmp 37) (.skip) (.exit 1)) <|
  .block 2 (ak [aa 38 9,az 39 .add 38 1,aa 9 39])
def tY:DC :=
  .seq (.seq (ak [aa 58 10,az 59 .leq 58 4]) <|
  .cond (.tmp 59) (.skip) (.exit 3)) <|
  .seq (.block 4 (.seq (.region [] [⟨none,[aa 62 1,aa 63 10,aS 64 .add 62 63,aa 65 0,aR 66 65,aS 67 .leq 64 66,aa 68 67]⟩,⟨(some (68,true)),[aa 69 0,aa 70 1,aa 71 1,aa 72 10,aS 73 .add 71 72,((some 74),.op (.slice 1 (.tmp 69) (some (.tmp 70)) (some (.tmp 73)))),((some 75),.op (.old (.convert 91 9 (.tmp 74)) 9)),aH 76 192 [75]]⟩,⟨none,[bz 77 68 76]⟩]) <|
  .cond (.tmp 77) (.seq (.region [(6,8)] [⟨none,[aa 78 0,aa 79 1,aa 80 1,aa 81 10,aS 82 .add 80 81,((some 83),.op (.slice 1 (.tmp 78) (some (.tmp 79)) (some (.tmp 82)))),((some 84),.op (.old (.convert 91 9 (.tmp 83)) 9)),au 85 0 7,(none,.op (.store 1 (.tmp 85) (.val (.val (.int .i64 2))))),au 86 1 7,(none,.op (.store 1 (.tmp 86) (.tmp 84)))]⟩]) <|
  .seq (ak [aK 87 3 7,aa 88 1,aa 89 10,aS 90 .add 88 89,(none,.op (.store 3 (.tmp 4) (.tmp 87))),aa 5 90,aJ 6 0]) <|
  .ret) (.skip))) <|
  ak [aa 60 10,az 61 .add 60 1,aa 10 61]
def ua:DC :=
  .seq (.seq (.region [] [⟨none,[aa 108 9,aa 109 0,aR 110 109,aS 111 .lss 108 110,aa 112 111]⟩,⟨(some (112,true)),[aa 113 0,aa 114 9,aZ 115 1 113 114,aw 116 115,((some 117),.op (.arith .geq (.tmp 116) (.val (.val (.int .u8 97)))))]⟩,⟨none,[bz 118 112 117,aa 119 118]⟩,⟨(some (119,true)),[aa 120 0,aa 121 9,aZ 122 1 120 121,aw 123 122,((some 124),.op (.arith .leq (.tmp 123) (.val (.val (.int .u8 122)))))]⟩,⟨none,[bz 125 119 124]⟩]) <|
  .cond (.tmp 125) (.skip) (.exit 5)) <|
  .block 6 (ak [aa 126 9,az 127 .add 126 1,aa 9 127])
def ov:DF:=⟨.seq (.region [] [⟨none,[((some 4),.op (.alloc [(.val (.int .i64 0)),(.val (.string ⟨#[]⟩)),(.val (.complex .f64 0 0))])),aJ 5 0,aJ 6 0]⟩]) <|
  .seq (.region [] [⟨none,[aa 11 0,aa 12 1,aH 13 178 [11,12],((some 14),.op (.build [(.val (.int .i64 0)),(.val (.string ⟨#[]⟩)),(.val (.complex .f64 0 0))] [(2,1,(.tmp 13))])),((some 7),.op (.alloc [(.val (.int .i64 0)),(.val (.string ⟨#[]⟩)),(.val (.complex .f64 0 0))])),(none,.op (.store 3 (.tmp 7) (.tmp 14)))]⟩]) <|
  .seq (ak [aa 15 0,aa 16 1,aZ 17 1 15 16,aw 18 17,aa 8 18]) <|
  .seq (ak [aa 19 1,az 20 .add 19 1,aa 9 20]) <|
  .seq (.block 0 (.seq (ak [aa 25 8,aH 26 193 [25],aa 24 26]) <|
  .cond (.tmp 24) (.seq (.block 1 (.loop tW)) <|
  .seq (.seq (ak [aa 40 9,aa 41 1,aS 42 .sub 40 41,az 43 .gtr 42 20]) <|
  .cond (.tmp 43) (.seq (ak [aK 44 3 7,aa 45 9,(none,.op (.store 3 (.tmp 4) (.tmp 44))),aa 5 45,aJ 6 5]) <|
  .ret) (.skip)) <|
  .seq (.region [(4,6)] [⟨none,[aa 46 0,aa 47 1,aa 48 9,((some 49),.op (.slice 1 (.tmp 46) (some (.tmp 47)) (some (.tmp 48)))),((some 50),.op (.old (.convert 91 9 (.tmp 49)) 9)),au 51 0 7,(none,.op (.store 1 (.tmp 51) (.val (.val (.int .i64 1))))),au 52 1 7,(none,.op (.store 1 (.tmp 52) (.tmp 50)))]⟩]) <|
  .seq (ak [aK 53 3 7,aa 54 9,(none,.op (.store 3 (.tmp 4) (.tmp 53))),aa 5 54,aJ 6 0]) <|
  .ret) (.seq (ak [aa 56 8,((some 57),.op (.arith .eql (.tmp 56) (.val (.val (.int .u8 39))))),aa 55 57]) <|
  .cond (.tmp 55) (.seq (.seq (ak [aJ 10 3]) <|
  .block 3 (.loop tY)) <|
  .seq (.region [(0,5)] [⟨none,[aK 91 3 7,aa 92 9,aa 93 0,aa 94 1,((some 95),.op (.slice 1 (.tmp 93) (some (.tmp 94)) none)),aH 96 217 [95],(none,.op (.store 3 (.tmp 4) (.tmp 91))),aa 5 92,aa 6 96]⟩]) <|
  .ret) (.seq (.region [] [⟨none,[aa 98 0,aa 99 1,cX 100 212 [(.tmp 98),(.tmp 99),(.val (.val (.string ⟨#[37,37]⟩)))],aa 97 100]⟩]) <|
  .cond (.tmp 97) (.seq (ak [au 101 0 7,(none,.op (.store 1 (.tmp 101) (.val (.val (.int .i64 9)))))]) <|
  .seq (ak [aK 102 3 7,aa 103 1,az 104 .add 103 2,(none,.op (.store 3 (.tmp 4) (.tmp 102))),aa 5 104,aJ 6 0]) <|
  .ret) (.seq (ak [aa 106 8,((some 107),.op (.arith .eql (.tmp 106) (.val (.val (.int .u8 37))))),aa 105 107]) <|
  .cond (.tmp 105) (.seq (.block 5 (.loop ua)) <|
  ak [aa 128 0,aa 129 1,az 130 .add 129 1,aa 131 9,((some 132),.op (.slice 1 (.tmp 128) (some (.tmp 130)) (some (.tmp 131)))),((some 133),.op (.old (.convert 91 9 (.tmp 132)) 9)),aH 134 218 [133],au 135 0 7,(none,.op (.store 1 (.tmp 135) (.tmp 134)))]) (ak [aa 21 8,aH 22 219 [21],au 23 0 7,(none,.op (.store 1 (.tmp 23) (.tmp 22)))])))))) <|
  .seq (.seq (ak [au 136 0 7,aw 137 136,az 138 .eql 137 0]) <|
  .cond (.tmp 138) (.seq (ak [aK 139 3 7,aa 140 9,(none,.op (.store 3 (.tmp 4) (.tmp 139))),aa 5 140,aJ 6 3]) <|
  .ret) (.skip)) <|
  .seq (ak [aK 141 3 7,aa 142 9,(none,.op (.store 3 (.tmp 4) (.tmp 141))),aa 5 142,aJ 6 0]) <|
  .ret,
  [.cell 4 (some 3),.tmp 5,.tmp 6],143⟩
theorem s6:aT Tryz.prog 179 []=some ov:=by kernel_rfl
def ma:DF:=⟨.seq (ak [aY 2 false]) <|
  .seq (.region [] [⟨none,[aa 3 0,aH 4 193 [3],aa 5 4]⟩,⟨(some (5,false)),[aa 6 0,((some 7),.op (.arith .geq (.tmp 6) (.val (.val (.int .u8 48))))),aa 8 7]⟩,⟨(some (8,true)),[aa 9 0,((some 10),.op (.arith .leq (.tmp 9) (.val (.val (.int .u8 57)))))]⟩,⟨(some (5,false)),[bz 11 8 10]⟩,⟨none,[bC 12 5 11,aa 13 12]⟩,⟨(some (13,false)),[aa 14 0,((some 15),.op (.arith .eql (.tmp 14) (.val (.val (.int .u8 46)))))]⟩,⟨none,[bC 16 13 15,aa 2 16]⟩]) <|
  .ret,
  [.tmp 2],17⟩
theorem qL:aT Tryz.prog 194 []=some ma:=by kernel_rfl
def lU:DF:=⟨.seq (ak [aY 2 false]) <|
  .seq (.region [] [⟨none,[aa 3 0,((some 4),.op (.arith .geq (.tmp 3) (.val (.val (.int .u8 97))))),aa 5 4]⟩,⟨(some (5,true)),[aa 6 0,((some 7),.op (.arith .leq (.tmp 6) (.val (.val (.int .u8 122)))))]⟩,⟨none,[bz 8 5 7,aa 9 8]⟩,⟨(some (9,false)),[aa 10 0,((some 11),.op (.arith .geq (.tmp 10) (.val (.val (.int .u8 65))))),aa 12 11]⟩,⟨(some (12,true)),[aa 13 0,((some 14),.op (.arith .leq (.tmp 13) (.val (.val (.int .u8 90)))))]⟩,⟨(some (9,false)),[bz 15 12 14]⟩,⟨none,[bC 16 9 15,aa 17 16]⟩,⟨(some (17,false)),[aa 18 0,((some 19),.op (.arith .eql (.tmp 18) (.val (.val (.int .u8 95)))))]⟩,⟨none,[bC 20 17 19,aa 2 20]⟩]) <|
  .ret,
  [.tmp 2],21⟩
theorem qK:aT Tryz.prog 193 []=some lU:=by kernel_rfl
def kn:DF:=⟨.seq (ak [aY 2 false]) <|
  .seq (.seq (ak [aa 3 0,((some 4),.op (.gB (.tmp 3))),az 5 .eql 4 3]) <|
  .cond (.tmp 5) (.seq (.region [] [⟨none,[aa 6 0,((some 7),.op (.c5 (.tmp 6) (.val (.val (.int .i64 0))))),((some 8),.op (.arith .eql (.tmp 7) (.val (.val (.int .u8 39))))),aa 9 8]⟩,⟨(some (9,true)),[aa 10 0,((some 11),.op (.c5 (.tmp 10) (.val (.val (.int .i64 2))))),((some 12),.op (.arith .eql (.tmp 11) (.val (.val (.int .u8 39)))))]⟩,⟨none,[bz 13 9 12,aa 14 13]⟩,⟨(some (14,true)),[aa 15 0,((some 16),.op (.c5 (.tmp 15) (.val (.val (.int .i64 1))))),((some 17),.op (.arith .geq (.tmp 16) (.val (.val (.int .u8 32)))))]⟩,⟨none,[bz 18 14 17,aa 19 18]⟩,⟨(some (19,true)),[aa 20 0,((some 21),.op (.c5 (.tmp 20) (.val (.val (.int .i64 1))))),((some 22),.op (.arith .leq (.tmp 21) (.val (.val (.int .u8 126)))))]⟩,⟨none,[bz 23 19 22,aa 24 23]⟩,⟨(some (24,true)),[aa 25 0,((some 26),.op (.c5 (.tmp 25) (.val (.val (.int .i64 1))))),((some 27),.op (.arith .neq (.tmp 26) (.val (.val (.int .u8 39)))))]⟩,⟨none,[bz 28 24 27,aa 29 28]⟩,⟨(some (29,true)),[aa 30 0,((some 31),.op (.c5 (.tmp 30) (.val (.val (.int .i64 1))))),((some 32),.op (.arith .neq (.tmp 31) (.val (.val (.int .u8 92)))))]⟩,⟨none,[bz 33 29 32,aa 2 33]⟩]) <|
  .ret) (.skip)) <|
  .seq (.region [] [⟨none,[aa 34 0,((some 35),.op (.gB (.tmp 34))),az 36 .eql 35 4,aa 37 36]⟩,⟨(some (37,true)),[aa 38 0,((some 39),.op (.c5 (.tmp 38) (.val (.val (.int .i64 0))))),((some 40),.op (.arith .eql (.tmp 39) (.val (.val (.int .u8 39)))))]⟩,⟨none,[bz 41 37 40,aa 42 41]⟩,⟨(some (42,true)),[aa 43 0,((some 44),.op (.c5 (.tmp 43) (.val (.val (.int .i64 3))))),((some 45),.op (.arith .eql (.tmp 44) (.val (.val (.int .u8 39)))))]⟩,⟨none,[bz 46 42 45,aa 47 46]⟩,⟨(some (47,true)),[aa 48 0,((some 49),.op (.c5 (.tmp 48) (.val (.val (.int .i64 1))))),((some 50),.op (.arith .eql (.tmp 49) (.val (.val (.int .u8 92)))))]⟩,⟨none,[bz 51 47 50,aa 52 51]⟩,⟨(some (52,true)),[aa 53 0,((some 54),.op (.c5 (.tmp 53) (.val (.val (.int .i64 2))))),((some 55),.op (.arith .eql (.tmp 54) (.val (.val (.int .u8 110))))),aa 56 55]⟩,⟨(some (56,false)),[aa 57 0,((some 58),.op (.c5 (.tmp 57) (.val (.val (.int .i64 2))))),((some 59),.op (.arith .eql (.tmp 58) (.val (.val (.int .u8 116)))))]⟩,⟨(some (52,true)),[bC 60 56 59,aa 61 60]⟩,⟨(some (61,false)),[aa 62 0,((some 63),.op (.c5 (.tmp 62) (.val (.val (.int .i64 2))))),((some 64),.op (.arith .eql (.tmp 63) (.val (.val (.int .u8 92)))))]⟩,⟨(some (52,true)),[bC 65 61 64,aa 66 65]⟩,⟨(some (66,false)),[aa 67 0,((some 68),.op (.c5 (.tmp 67) (.val (.val (.int .i64 2))))),((some 69),.op (.arith .eql (.tmp 68) (.val (.val (.int .u8 39)))))]⟩,⟨(some (52,true)),[bC 70 66 69]⟩,⟨none,[bz 71 52 70,aa 2 71]⟩]) <|
  .ret,
  [.tmp 2],72⟩
theorem pk:aT Tryz.prog 192 []=some kn:=by kernel_rfl
def pU:DC :=
  .seq (.seq (ak [aa 6 4,aa 7 3,aR 8 7,aS 9 .lss 6 8]) <|
  .cond (.tmp 9) (.skip) (.exit 0)) <|
  .seq (.block 1 (.seq (.region [(5,9)] [⟨none,[aa 12 0,aR 13 12,az 14 .lss 13 4,aa 15 14]⟩,⟨(some (15,true)),[aa 16 0,((some 17),.op (.old (.convert 91 9 (.tmp 16)) 9)),aa 18 3,aa 19 4,aZ 20 1 18 19,aw 21 20,((some 22),.op (.iO .add (.tmp 17) (.tmp 21))),aH 23 192 [22]]⟩,⟨none,[bz 24 15 23]⟩]) <|
  .cond (.tmp 24) (.seq (ak [aJ 2 4]) <|
  .ret) (.skip))) <|
  ak [aa 10 4,az 11 .add 10 1,aa 4 11]
def kC:DF:=⟨.seq (ak [aJ 2 0]) <|
  .seq (.region [] [⟨none,[((some 5),.op (.bF 5 1 [(.val (.string ⟨#[]⟩))] [(0,(.val (.val (.string ⟨#[120,39]⟩)))),(1,(.val (.val (.string ⟨#[39]⟩)))),(2,(.val (.val (.string ⟨#[92,110,39]⟩)))),(3,(.val (.val (.string ⟨#[110,39]⟩)))),(4,(.val (.val (.string ⟨#[92,39,39]⟩))))])),aa 3 5]⟩]) <|
  .seq (.seq (ak [aJ 4 0]) <|
  .block 0 (.loop pU)) <|
  .seq (ak [aJ 2 3]) <|
  .ret,
  [.tmp 2],25⟩
theorem pt:aT Tryz.prog 217 []=some kC:=by kernel_rfl
def kB:DF:=⟨.seq (ak [aJ 2 0]) <|
  .seq (.seq (ak [aa 3 0]) <|
  .block 0 (.seq (.region [] [⟨none,[((some 5),.op (.iO .eql (.tmp 3) (.val (.val (.string ⟨#[116,111,107,101,110]⟩))))),aa 4 5]⟩]) <|
  .cond (.tmp 4) (.seq (ak [aJ 2 3]) <|
  .ret) (.seq (.region [] [⟨none,[((some 7),.op (.iO .eql (.tmp 3) (.val (.val (.string ⟨#[108,101,102,116]⟩))))),aa 6 7]⟩]) <|
  .cond (.tmp 6) (.seq (ak [aJ 2 4]) <|
  .ret) (.seq (.region [] [⟨none,[((some 9),.op (.iO .eql (.tmp 3) (.val (.val (.string ⟨#[114,105,103,104,116]⟩))))),aa 8 9]⟩]) <|
  .cond (.tmp 8) (.seq (ak [aJ 2 5]) <|
  .ret) (.seq (.region [] [⟨none,[((some 11),.op (.iO .eql (.tmp 3) (.val (.val (.string ⟨#[110,111,110,97,115,115,111,99]⟩))))),aa 10 11]⟩]) <|
  .cond (.tmp 10) (.seq (ak [aJ 2 6]) <|
  .ret) (.seq (.region [] [⟨none,[((some 13),.op (.iO .eql (.tmp 3) (.val (.val (.string ⟨#[115,116,97,114,116]⟩))))),aa 12 13]⟩]) <|
  .cond (.tmp 12) (.seq (ak [aJ 2 7]) <|
  .ret) (.seq (.region [] [⟨none,[((some 15),.op (.iO .eql (.tmp 3) (.val (.val (.string ⟨#[112,114,101,99]⟩))))),aa 14 15]⟩]) <|
  .cond (.tmp 14) (.seq (ak [aJ 2 8]) <|
  .ret) (.skip)))))))) <|
  .seq (ak [aJ 2 0]) <|
  .ret,
  [.tmp 2],16⟩
theorem pz:aT Tryz.prog 218 []=some kB:=by kernel_rfl
def m0:DF:=⟨.seq (ak [aJ 2 0]) <|
  .seq (.seq (ak [aa 3 0]) <|
  .block 0 (.seq (ak [((some 5),.op (.arith .eql (.tmp 3) (.val (.val (.int .u8 58))))),aa 4 5]) <|
  .cond (.tmp 4) (.seq (ak [aJ 2 10]) <|
  .ret) (.seq (ak [((some 7),.op (.arith .eql (.tmp 3) (.val (.val (.int .u8 124))))),aa 6 7]) <|
  .cond (.tmp 6) (.seq (ak [aJ 2 11]) <|
  .ret) (.seq (ak [((some 9),.op (.arith .eql (.tmp 3) (.val (.val (.int .u8 59))))),aa 8 9]) <|
  .cond (.tmp 8) (.seq (ak [aJ 2 12]) <|
  .ret) (.skip))))) <|
  .seq (ak [aJ 2 0]) <|
  .ret,
  [.tmp 2],10⟩
theorem r9:aT Tryz.prog 219 []=some m0:=by kernel_rfl
def ug:DC :=
  .seq (.seq (.region [] [⟨none,[aa 21 7,bN 22 21,au 23 3 22,aw 24 23,az 25 .eql 24 0,aa 26 25]⟩,⟨(some (26,true)),[aa 27 7,bN 28 27,au 29 0 28,aw 30 29,aR 31 30,az 32 .gtr 31 0]⟩,⟨none,[bz 33 26 32,aa 34 33]⟩,⟨(some (34,true)),[aa 35 7,aH 36 183 [35],az 37 .neq 36 9]⟩,⟨none,[bz 38 34 37]⟩]) <|
  .cond (.tmp 38) (.skip) (.exit 0)) <|
  .block 1 (.region [(1,3)] [⟨none,[au 39 1 8,aw 40 39,aa 41 7,aH 42 182 [41],((some 43),.op (.app 5 88 (.tmp 40) (.tmp 42))),au 44 1 8,(none,.op (.store 1 (.tmp 44) (.tmp 43)))]⟩])
def pC:DF:=⟨.seq (ak [((some 4),.op (.alloc [(.emp 1),(.emp 1)])),((some 5),.op (.bk (.val (.val (.complex .f64 0 0))))),aJ 6 0]) <|
  .seq (ak [aa 9 0,aa 10 1,((some 11),.op (.build [(.emp 1),(.val (.complex .f64 0 0)),(.val (.complex .f64 0 0)),(.val (.int .i64 0))] [(0,1,(.tmp 9)),(1,1,(.tmp 10))])),((some 12),.op (.box (.tmp 11))),aa 7 12]) <|
  .seq (ak [aa 13 7,aH 14 180 [13],((some 15),.op (.build [(.emp 1),(.emp 1)] [(0,1,(.tmp 14))])),((some 8),.op (.alloc [(.emp 1),(.emp 1)])),(none,.op (.store 2 (.tmp 8) (.tmp 15)))]) <|
  .seq (ak [aa 16 7,cX 17 181 [(.tmp 16),(.val (.val (.int .i64 9))),(.val (.val (.int .i64 9)))]]) <|
  .seq (ak [aa 18 7,aH 19 182 [18],au 20 1 8,(none,.op (.store 1 (.tmp 20) (.tmp 19)))]) <|
  .seq (.block 0 (.loop ug)) <|
  .seq (.seq (.region [] [⟨none,[aa 45 7,bN 46 45,au 47 3 46,aw 48 47,az 49 .eql 48 0,aa 50 49]⟩,⟨(some (50,true)),[aa 51 7,bN 52 51,au 53 0 52,aw 54 53,aR 55 54,az 56 .gtr 55 0]⟩,⟨none,[bz 57 50 56]⟩]) <|
  .cond (.tmp 57) (ak [aa 58 7,cX 59 181 [(.tmp 58),(.val (.val (.int .i64 9))),(.val (.val (.int .i64 9)))]]) (.skip)) <|
  .seq (.seq (ak [aa 60 7,bN 61 60,au 62 0 61,aw 63 62,aR 64 63,az 65 .gtr 64 0]) <|
  .cond (.tmp 65) (ak [aa 66 7,aH 67 184 [66]]) (.skip)) <|
  .seq (.seq (ak [aa 68 7,bN 69 68,au 70 3 69,aw 71 70,az 72 .neq 71 0]) <|
  .cond (.tmp 72) (.seq (.region [(4,9),(8,9)] [⟨none,[((some 73),.op (.build [(.emp 1),(.emp 1)] [])),aa 74 7,bN 75 74,au 76 2 75,aw 77 76,aa 78 7,bN 79 78,au 80 3 79,aw 81 80,(none,.op (.store 2 (.tmp 4) (.tmp 73))),aa 5 77,aa 6 81]⟩]) <|
  .ret) (.skip)) <|
  .seq (ak [aK 82 2 8,(none,.op (.store 2 (.tmp 4) (.tmp 82))),((some 5),.op (.bk (.val (.val (.complex .f64 0 0))))),aJ 6 0]) <|
  .ret,
  [.cell 4 (some 2),.tmp 5,.tmp 6],83⟩
theorem tZ:aT Tryz.prog 135 []=some pC:=by kernel_rfl
def iK:DF:=⟨.seq (ak [aJ 2 0]) <|
  .seq (.seq (.region [] [⟨none,[aa 3 0,bN 4 3,au 5 3 4,aw 6 5,az 7 .neq 6 0,aa 8 7]⟩,⟨(some (8,false)),[aa 9 0,bN 10 9,au 11 0 10,aw 12 11,aR 13 12,az 14 .eql 13 0]⟩,⟨none,[bC 15 8 14]⟩]) <|
  .cond (.tmp 15) (.seq (ak [aJ 2 0]) <|
  .ret) (.skip)) <|
  .seq (ak [aa 16 0,bN 17 16,au 18 0 17,aw 19 18,((some 20),.op (.idx 3 (.tmp 19) (.val (.val (.int .i64 0))))),au 21 0 20,aw 22 21,aa 2 22]) <|
  .ret,
  [.tmp 2],23⟩
theorem ml:aT Tryz.prog 183 []=some iK:=by kernel_rfl
def mj:DC :=
  .seq (.seq (ak [aa 10 0,bN 11 10,au 12 3 11,aw 13 12,az 14 .eql 13 0]) <|
  .cond (.tmp 14) (.skip) (.exit 0)) <|
  .block 1 (.seq (.region [(0,2),(2,4)] [⟨none,[aK 15 2 4,aa 16 0,aH 17 220 [16],((some 18),.op (.build [(.val (.string ⟨#[]⟩)),(.val (.complex .f64 0 0)),(.emp 1),(.val (.string ⟨#[]⟩)),(.val (.complex .f64 0 0))] [(0,2,(.tmp 15)),(2,1,(.tmp 17))])),((some 5),.op (.alloc [(.val (.string ⟨#[]⟩)),(.val (.complex .f64 0 0)),(.emp 1),(.val (.string ⟨#[]⟩)),(.val (.complex .f64 0 0))])),(none,.op (.store 5 (.tmp 5) (.tmp 18)))]⟩]) <|
  .seq (.seq (ak [aa 19 0,cX 20 221 [(.tmp 19),(.val (.val (.int .i64 8))),(.val (.val (.int .i64 8)))]]) <|
  .cond (.tmp 20) (.seq (ak [aa 21 0,cX 22 181 [(.tmp 21),(.val (.val (.int .i64 8))),(.val (.val (.int .i64 8)))]]) <|
  ak [aa 23 0,cX 24 181 [(.tmp 23),(.val (.val (.int .i64 1))),(.val (.val (.int .i64 2)))],au 25 3 5,(none,.op (.store 2 (.tmp 25) (.tmp 24)))]) (.skip)) <|
  .seq (.region [] [⟨none,[aa 26 3,aK 27 5 5,((some 28),.op (.bF 1 5 [(.val (.string ⟨#[]⟩)),(.val (.complex .f64 0 0)),(.emp 1),(.val (.string ⟨#[]⟩)),(.val (.complex .f64 0 0))] [(0,(.tmp 27))])),((some 29),.op (.app 5 88 (.tmp 26) (.tmp 28))),aa 3 29]⟩]) <|
  .seq (.seq (ak [aa 30 0,cX 31 221 [(.tmp 30),(.val (.val (.int .i64 11))),(.val (.val (.int .i64 11)))],b7 32 31]) <|
  .cond (.tmp 32) (.seq (ak [aa 33 0,cX 34 181 [(.tmp 33),(.val (.val (.int .i64 12))),(.val (.val (.int .i64 12)))]]) <|
  .seq (ak [aa 35 3,aa 2 35]) <|
  .ret) (.skip)) <|
  ak [aa 36 0,cX 37 181 [(.tmp 36),(.val (.val (.int .i64 11))),(.val (.val (.int .i64 11)))]])
def ir:DF:=⟨.seq (ak [((some 2),.op (.bk (.val (.emp 1))))]) <|
  .seq (ak [((some 3),.op (.bk (.val (.emp 1))))]) <|
  .seq (.region [] [⟨none,[aa 6 0,cX 7 181 [(.tmp 6),(.val (.val (.int .i64 1))),(.val (.val (.int .i64 1)))],((some 4),.op (.alloc [(.val (.string ⟨#[]⟩)),(.val (.complex .f64 0 0))])),(none,.op (.store 2 (.tmp 4) (.tmp 7)))]⟩]) <|
  .seq (ak [aa 8 0,cX 9 181 [(.tmp 8),(.val (.val (.int .i64 10))),(.val (.val (.int .i64 10)))]]) <|
  .seq (.block 0 (.loop mj)) <|
  .seq (ak [aa 38 3,aa 2 38]) <|
  .ret,
  [.tmp 2],39⟩
theorem lM:aT Tryz.prog 182 []=some ir:=by kernel_rfl
def nM:DC :=
  .seq (.seq (ak [aa 4 0,cX 5 221 [(.tmp 4),(.val (.val (.int .i64 1))),(.val (.val (.int .i64 2)))]]) <|
  .cond (.tmp 5) (.skip) (.exit 0)) <|
  .block 1 (.region [] [⟨none,[aa 6 3,aa 7 0,cX 8 181 [(.tmp 7),(.val (.val (.int .i64 1))),(.val (.val (.int .i64 2)))],((some 9),.op (.bF 1 2 [(.val (.string ⟨#[]⟩)),(.val (.complex .f64 0 0))] [(0,(.tmp 8))])),((some 10),.op (.app 2 32 (.tmp 6) (.tmp 9))),aa 3 10]⟩])
def iD:DF:=⟨.seq (ak [((some 2),.op (.bk (.val (.emp 1))))]) <|
  .seq (ak [((some 3),.op (.bk (.val (.emp 1))))]) <|
  .seq (.block 0 (.loop nM)) <|
  .seq (ak [aa 11 3,aa 2 11]) <|
  .ret,
  [.tmp 2],12⟩
theorem me:aT Tryz.prog 220 []=some iD:=by kernel_rfl
def jA:DF:=⟨.seq (ak [aY 6 false]) <|
  .seq (.region [] [⟨none,[aa 7 0,bN 8 7,au 9 0 8,aw 10 9,aR 11 10,az 12 .gtr 11 0,aa 13 12]⟩,⟨(some (13,true)),[aa 14 0,aH 15 183 [14],aa 16 1,aS 17 .eql 15 16,aa 18 17]⟩,⟨(some (18,false)),[aa 19 0,aH 20 183 [19],aa 21 2,aS 22 .eql 20 21]⟩,⟨(some (13,true)),[bC 23 18 22]⟩,⟨none,[bz 24 13 23,aa 6 24]⟩]) <|
  .ret,
  [.tmp 6],25⟩
theorem nT:aT Tryz.prog 221 []=some jA:=by kernel_rfl
def iH:DF:=⟨.seq (.region [] [⟨none,[((some 6),.op (.alloc [(.val (.string ⟨#[]⟩)),(.val (.complex .f64 0 0))]))]⟩]) <|
  .seq (.seq (.region [] [⟨none,[aa 8 0,bN 9 8,au 10 3 9,aw 11 10,az 12 .neq 11 0,aa 13 12]⟩,⟨(some (13,false)),[aa 14 0,aa 15 1,aa 16 2,aH 17 221 [14,15,16],b7 18 17]⟩,⟨none,[bC 19 13 18]⟩]) <|
  .cond (.tmp 19) (.seq (ak [aa 20 0,aH 21 184 [20]]) <|
  .seq (.region [] [⟨none,[((some 22),.op (.build [(.val (.string ⟨#[]⟩)),(.val (.complex .f64 0 0))] [])),(none,.op (.store 2 (.tmp 6) (.tmp 22)))]⟩]) <|
  .ret) (.skip)) <|
  .seq (.region [] [⟨none,[aa 23 0,bN 24 23,au 25 0 24,aw 26 25,((some 27),.op (.idx 3 (.tmp 26) (.val (.val (.int .i64 0))))),aK 28 3 27,((some 7),.op (.alloc [(.val (.int .i64 0)),(.val (.string ⟨#[]⟩)),(.val (.complex .f64 0 0))])),(none,.op (.store 3 (.tmp 7) (.tmp 28)))]⟩]) <|
  .seq (ak [aa 29 0,aa 30 0,bN 31 30,au 32 0 31,aw 33 32,((some 34),.op (.slice 3 (.tmp 33) (some (.val (.val (.int .i64 1)))) none)),bN 35 29,au 36 0 35,(none,.op (.store 1 (.tmp 36) (.tmp 34)))]) <|
  .seq (.region [] [⟨none,[au 37 1 7,aw 38 37,au 39 2 7,aw 40 39,((some 41),.op (.build [(.val (.string ⟨#[]⟩)),(.val (.complex .f64 0 0))] [(0,1,(.tmp 38)),(1,1,(.tmp 40))])),(none,.op (.store 2 (.tmp 6) (.tmp 41)))]⟩]) <|
  .ret,
  [.cell 6 (some 2)],42⟩
theorem mw:aT Tryz.prog 181 []=some iH:=by kernel_rfl
def iI:DF:=⟨.seq (.seq (ak [aa 2 0,bN 3 2,au 4 3 3,aw 5 4,az 6 .neq 5 0]) <|
  .cond (.tmp 6) (.ret) (.skip)) <|
  .seq (ak [aa 7 0,aa 8 0,aa 9 0,bN 10 9,au 11 1 10,aw 12 11,bN 13 7,au 14 2 13,(none,.op (.store 1 (.tmp 14) (.tmp 12))),bN 15 8,au 16 3 15,(none,.op (.store 1 (.tmp 16) (.val (.val (.int .i64 4)))))]) <|
  .seq (ak [aa 17 0,bN 18 17,au 19 0 18,aw 20 19,aR 21 20,az 22 .gtr 21 0]) <|
  .cond (.tmp 22) (ak [aa 23 0,aa 24 0,aa 25 0,bN 26 25,au 27 0 26,aw 28 27,((some 29),.op (.idx 3 (.tmp 28) (.val (.val (.int .i64 0))))),au 30 2 29,aw 31 30,bN 32 23,au 33 2 32,(none,.op (.store 1 (.tmp 33) (.tmp 31))),bN 34 24,au 35 3 34,(none,.op (.store 1 (.tmp 35) (.val (.val (.int .i64 3)))))]) (.skip),
  [],36⟩
theorem mh:aT Tryz.prog 184 []=some iI:=by kernel_rfl
def mg:DC :=
  .seq (.seq (.region [] [⟨none,[aa 6 0,bN 7 6,au 8 3 7,aw 9 8,az 10 .eql 9 0,aa 11 10]⟩,⟨(some (11,true)),[aa 12 0,bN 13 12,au 14 0 13,aw 15 14,aR 16 15,az 17 .gtr 16 0]⟩,⟨none,[bz 18 11 17,aa 19 18]⟩,⟨(some (19,true)),[aa 20 0,aH 21 183 [20],az 22 .neq 21 9]⟩,⟨none,[bz 23 19 22]⟩]) <|
  .cond (.tmp 23) (.skip) (.exit 0)) <|
  .block 1 (.seq (ak [aa 24 0,aH 25 183 [24],aa 4 25]) <|
  .seq (.seq (ak [aa 26 4,az 27 .eql 26 7]) <|
  .cond (.tmp 27) (.seq (ak [aa 28 0,aa 29 4,aa 30 4,aH 31 181 [28,29,30]]) <|
  .seq (.region [] [⟨none,[aa 32 3,aa 33 4,aa 34 0,cX 35 181 [(.tmp 34),(.val (.val (.int .i64 1))),(.val (.val (.int .i64 1)))],((some 36),.op (.bF 1 2 [(.val (.string ⟨#[]⟩)),(.val (.complex .f64 0 0))] [(0,(.tmp 35))])),((some 37),.op (.build [(.val (.int .i64 0)),(.emp 1)] [(0,1,(.tmp 33)),(1,1,(.tmp 36))])),((some 38),.op (.bF 1 2 [(.val (.int .i64 0)),(.emp 1)] [(0,(.tmp 37))])),((some 39),.op (.app 2 32 (.tmp 32) (.tmp 38))),aa 3 39]⟩]) <|
  .exit 1) (.skip)) <|
  .seq (.seq (.region [] [⟨none,[aa 40 4,az 41 .neq 40 3,aa 42 41]⟩,⟨(some (42,true)),[aa 43 4,az 44 .neq 43 4]⟩,⟨none,[bz 45 42 44,aa 46 45]⟩,⟨(some (46,true)),[aa 47 4,az 48 .neq 47 5]⟩,⟨none,[bz 49 46 48,aa 50 49]⟩,⟨(some (50,true)),[aa 51 4,az 52 .neq 51 6]⟩,⟨none,[bz 53 50 52]⟩]) <|
  .cond (.tmp 53) (.seq (ak [aa 54 0,aH 55 184 [54]]) <|
  .exit 1) (.skip)) <|
  .seq (ak [aa 56 0,aa 57 4,aa 58 4,aH 59 181 [56,57,58]]) <|
  .seq (.region [] [⟨none,[aa 60 0,cX 61 181 [(.tmp 60),(.val (.val (.int .i64 1))),(.val (.val (.int .i64 2)))],((some 5),.op (.alloc [(.val (.string ⟨#[]⟩)),(.val (.complex .f64 0 0))])),(none,.op (.store 2 (.tmp 5) (.tmp 61)))]⟩]) <|
  .region [(2,5),(3,5)] [⟨none,[aa 62 3,aa 63 4,aK 64 2 5,((some 65),.op (.bF 1 2 [(.val (.string ⟨#[]⟩)),(.val (.complex .f64 0 0))] [(0,(.tmp 64))])),aa 66 0,aH 67 220 [66],((some 68),.op (.app 2 32 (.tmp 65) (.tmp 67))),((some 69),.op (.build [(.val (.int .i64 0)),(.emp 1)] [(0,1,(.tmp 63)),(1,1,(.tmp 68))])),((some 70),.op (.bF 1 2 [(.val (.int .i64 0)),(.emp 1)] [(0,(.tmp 69))])),((some 71),.op (.app 2 32 (.tmp 62) (.tmp 70))),aa 3 71]⟩])
def iu:DF:=⟨.seq (ak [((some 2),.op (.bk (.val (.emp 1))))]) <|
  .seq (ak [((some 3),.op (.bk (.val (.emp 1))))]) <|
  .seq (.block 0 (.loop mg)) <|
  .seq (ak [aa 72 3,aa 2 72]) <|
  .ret,
  [.tmp 2],73⟩
theorem lL:aT Tryz.prog 180 []=some iu:=by kernel_rfl
def rb:DC :=
  .seq (.seq (.region [] [⟨none,[aa 17 6,au 18 1 1,aw 19 18,aR 20 19,aS 21 .lss 17 20,aa 22 21]⟩,⟨(some (22,true)),[aa 23 5,bN 24 23,au 25 10 24,aw 26 25,az 27 .eql 26 0]⟩,⟨none,[bz 28 22 27]⟩]) <|
  .cond (.tmp 28) (.skip) (.exit 0)) <|
  .seq (.block 1 (ak [aa 31 5,au 32 1 1,aw 33 32,aa 34 6,aZ 35 5 33 34,aK 36 5 35,aH 37 138 [31,36]])) <|
  ak [aa 29 6,az 30 .add 29 1,aa 6 30]
def lT:DF:=⟨.seq (ak [bQ 1 0,((some 2),.op (.alloc [(.emp 1),(.emp 1),(.emp 1),(.val (.int .i64 0))])),((some 3),.op (.bk (.val (.val (.complex .f64 0 0))))),aJ 4 0]) <|
  .seq (.region [] [⟨none,[((some 7),.op (.build [(.emp 1),(.emp 1),(.emp 1),(.val (.int .i64 0)),(.emp 1),(.val (.string ⟨#[]⟩)),(.val (.complex .f64 0 0)),(.val (.bool false)),(.val (.int .i64 0)),(.val (.complex .f64 0 0)),(.val (.int .i64 0))] [])),((some 8),.op (.box (.tmp 7))),aa 5 8]⟩]) <|
  .seq (ak [aa 9 5,au 10 0 1,aw 11 10,aH 12 136 [9,11]]) <|
  .seq (ak [aa 13 5,au 14 1 1,aw 15 14,aH 16 137 [13,15]]) <|
  .seq (.seq (ak [aJ 6 0]) <|
  .block 0 (.loop rb)) <|
  .seq (.seq (.region [] [⟨none,[aa 38 5,bN 39 38,au 40 7 39,aw 41 40,aa 42 41]⟩,⟨(some (42,true)),[aa 43 5,bN 44 43,au 45 0 44,aK 46 4 45,aa 47 5,bN 48 47,au 49 5 48,au 50 0 49,aw 51 50,aH 52 139 [46,51],az 53 .lss 52 0]⟩,⟨none,[bz 54 42 53]⟩]) <|
  .cond (.tmp 54) (ak [aa 55 5,aa 56 5,bN 57 56,au 58 5 57,aK 59 2 58,cX 60 140 [(.tmp 55),(.tmp 59),(.val (.val (.int .i64 8)))]]) (.skip)) <|
  .seq (.seq (ak [au 61 1 1,aw 62 61,aR 63 62,az 64 .eql 63 0]) <|
  .cond (.tmp 64) (.region [] [⟨none,[aa 65 5,((some 66),.op (.build [(.val (.string ⟨#[]⟩)),(.val (.complex .f64 0 0))] [])),cX 67 140 [(.tmp 65),(.tmp 66),(.val (.val (.int .i64 8)))]]⟩]) (.skip)) <|
  .seq (.seq (ak [aa 68 5,bN 69 68,au 70 10 69,aw 71 70,az 72 .neq 71 0]) <|
  .cond (.tmp 72) (.seq (.region [(4,9),(8,9)] [⟨none,[((some 73),.op (.build [(.emp 1),(.emp 1),(.emp 1),(.val (.int .i64 0))] [])),aa 74 5,bN 75 74,au 76 9 75,aw 77 76,aa 78 5,bN 79 78,au 80 10 79,aw 81 80,(none,.op (.store 4 (.tmp 2) (.tmp 73))),aa 3 77,aa 4 81]⟩]) <|
  .ret) (.skip)) <|
  .seq (.seq (ak [aa 82 5,bN 83 82,au 84 7 83,aw 85 84]) <|
  .cond (.tmp 85) (ak [aa 86 5,aa 87 5,bN 88 87,au 89 0 88,aK 90 4 89,aa 91 5,bN 92 91,au 93 5 92,au 94 0 93,aw 95 94,aH 96 139 [90,95],bN 97 86,au 98 0 97,au 99 3 98,(none,.op (.store 1 (.tmp 99) (.tmp 96)))]) (.skip)) <|
  .seq (ak [aa 100 5,bN 101 100,au 102 0 101,aK 103 4 102,(none,.op (.store 4 (.tmp 2) (.tmp 103))),((some 3),.op (.bk (.val (.val (.complex .f64 0 0))))),aJ 4 0]) <|
  .ret,
  [.cell 2 (some 4),.tmp 3,.tmp 4],104⟩
theorem qO:aT Tryz.prog 95 [1]=some lT:=by kernel_rfl
def oK:DC :=
  .seq (.seq (.region [] [⟨none,[aa 28 5,au 29 2 3,aw 30 29,aR 31 30,aS 32 .lss 28 31,aa 33 32]⟩,⟨(some (33,true)),[aa 34 0,bN 35 34,au 36 10 35,aw 37 36,az 38 .eql 37 0]⟩,⟨none,[bz 39 33 38]⟩]) <|
  .cond (.tmp 39) (.skip) (.exit 0)) <|
  .seq (.block 1 (.seq (.region [] [⟨none,[au 42 2 3,aw 43 42,aa 44 5,aZ 45 2 43 44,aK 46 2 45,((some 6),.op (.alloc [(.val (.string ⟨#[]⟩)),(.val (.complex .f64 0 0))])),(none,.op (.store 2 (.tmp 6) (.tmp 46)))]⟩]) <|
  .seq (.seq (ak [au 47 0 6,aw 48 47,aH 49 151 [48],b7 50 49]) <|
  .cond (.tmp 50) (.seq (ak [aa 51 0,aK 52 2 6,cX 53 140 [(.tmp 51),(.tmp 52),(.val (.val (.int .i64 3)))]]) <|
  .ret) (.skip)) <|
  .seq (.seq (ak [aa 54 5,az 55 .eql 54 6]) <|
  .cond (.tmp 55) (.seq (ak [aa 56 0,aK 57 2 6,cX 58 140 [(.tmp 56),(.tmp 57),(.val (.val (.int .i64 5)))]]) <|
  .ret) (.skip)) <|
  .seq (ak [aa 59 0,aK 60 2 6,cX 61 186 [(.tmp 59),(.tmp 60),(.val (.val (.bool true)))],aa 7 61]) <|
  .seq (ak [au 62 1 4,aw 63 62,aa 64 7,((some 65),.op (.bF 1 1 [(.val (.int .i64 0))] [(0,(.tmp 64))])),((some 66),.op (.app 1 8 (.tmp 63) (.tmp 65))),au 67 1 4,(none,.op (.store 1 (.tmp 67) (.tmp 66)))]) <|
  .seq (ak [aa 68 7,az 69 .geq 68 0]) <|
  .cond (.tmp 69) (ak [aa 70 7,au 71 2 4,(none,.op (.store 1 (.tmp 71) (.tmp 70)))]) (.skip))) <|
  ak [aa 40 5,az 41 .add 40 1,aa 5 41]
def jG:DF:=⟨.seq (ak [bQ 3 1]) <|
  .seq (.region [(7,9)] [⟨none,[aa 8 0,bN 9 8,au 10 0 9,aK 11 4 10,au 12 0 3,au 13 0 12,aw 14 13,aH 15 139 [11,14],((some 16),.op (.build [(.val (.int .i64 0)),(.emp 1),(.val (.int .i64 0))] [(0,1,(.tmp 15)),(2,1,(.val (.val (.int .i64 (-1)))))])),((some 4),.op (.alloc [(.val (.int .i64 0)),(.emp 1),(.val (.int .i64 0))])),(none,.op (.store 3 (.tmp 4) (.tmp 16)))]⟩]) <|
  .seq (.seq (ak [aa 17 0,bN 18 17,au 19 0 18,au 20 2 19,aw 21 20,aR 22 21,az 23 .eql 22 40]) <|
  .cond (.tmp 23) (ak [aa 24 0,au 25 0 3,aK 26 2 25,cX 27 140 [(.tmp 24),(.tmp 26),(.val (.val (.int .i64 5)))]]) (.skip)) <|
  .seq (.seq (ak [aJ 5 0]) <|
  .block 0 (.loop oK)) <|
  .seq (.seq (.region [] [⟨none,[au 72 3 3,au 73 0 72,aw 74 73,((some 75),.op (.iO .neq (.tmp 74) (.val (.val (.string ⟨#[]⟩))))),aa 76 75]⟩,⟨(some (76,true)),[aa 77 0,bN 78 77,au 79 10 78,aw 80 79,az 81 .eql 80 0]⟩,⟨none,[bz 82 76 81]⟩]) <|
  .cond (.tmp 82) (.seq (.seq (ak [au 83 3 3,au 84 0 83,aw 85 84,aH 86 151 [85],b7 87 86]) <|
  .cond (.tmp 87) (.seq (ak [aa 88 0,au 89 3 3,aK 90 2 89,cX 91 140 [(.tmp 88),(.tmp 90),(.val (.val (.int .i64 3)))]]) <|
  .ret) (.skip)) <|
  ak [aa 92 0,au 93 3 3,aK 94 2 93,cX 95 186 [(.tmp 92),(.tmp 94),(.val (.val (.bool false)))],au 96 2 4,(none,.op (.store 1 (.tmp 96) (.tmp 95)))]) (.skip)) <|
  ak [aa 97 0,aa 98 0,bN 99 98,au 100 0 99,au 101 2 100,aw 102 101,aK 103 3 4,((some 104),.op (.bF 1 3 [(.val (.int .i64 0)),(.emp 1),(.val (.int .i64 0))] [(0,(.tmp 103))])),((some 105),.op (.app 3 40 (.tmp 102) (.tmp 104))),bN 106 97,au 107 0 106,au 108 2 107,(none,.op (.store 1 (.tmp 108) (.tmp 105)))],
  [],109⟩
theorem n0:aT Tryz.prog 138 [3]=some jG:=by kernel_rfl
def l8:DF:=⟨.seq (ak [aY 2 false]) <|
  .seq (.region [] [⟨none,[aa 3 0,aH 4 154 [3],aa 5 4]⟩,⟨(some (5,false)),[aa 6 0,aH 7 192 [6]]⟩,⟨none,[bC 8 5 7,aa 2 8]⟩]) <|
  .ret,
  [.tmp 2],9⟩
theorem qF:aT Tryz.prog 151 []=some l8:=by kernel_rfl
def sR:DC :=
  .seq (.seq (ak [aa 18 3,aa 19 0,((some 20),.op (.gB (.tmp 19))),aS 21 .lss 18 20]) <|
  .cond (.tmp 21) (.skip) (.exit 0)) <|
  .seq (.block 1 (.seq (ak [aa 24 0,aa 25 3,((some 26),.op (.c5 (.tmp 24) (.tmp 25))),aH 27 194 [26],b7 28 27]) <|
  .cond (.tmp 28) (.seq (ak [aY 2 false]) <|
  .ret) (.skip))) <|
  ak [aa 22 3,az 23 .add 22 1,aa 3 23]
def na:DF:=⟨.seq (ak [aY 2 false]) <|
  .seq (.seq (.region [] [⟨none,[aa 4 0,((some 5),.op (.gB (.tmp 4))),az 6 .eql 5 0,aa 7 6]⟩,⟨(some (7,false)),[aa 8 0,((some 9),.op (.gB (.tmp 8))),az 10 .gtr 9 20]⟩,⟨none,[bC 11 7 10,aa 12 11]⟩,⟨(some (12,false)),[aa 13 0,((some 14),.op (.c5 (.tmp 13) (.val (.val (.int .i64 0))))),aH 15 193 [14],b7 16 15]⟩,⟨none,[bC 17 12 16]⟩]) <|
  .cond (.tmp 17) (.seq (ak [aY 2 false]) <|
  .ret) (.skip)) <|
  .seq (.seq (ak [aJ 3 0]) <|
  .block 0 (.loop sR)) <|
  .seq (ak [aY 2 true]) <|
  .ret,
  [.tmp 2],29⟩
theorem rA:aT Tryz.prog 154 []=some na:=by kernel_rfl
def jD:DF:=⟨.seq (ak [bQ 4 1]) <|
  .seq (ak [aa 6 0,bN 7 6,au 8 10 7,aw 9 8,az 10 .eql 9 0]) <|
  .cond (.tmp 10) (ak [aa 11 0,aa 12 0,au 13 1 4,aw 14 13,aa 15 2,bN 16 11,au 17 9 16,(none,.op (.store 1 (.tmp 17) (.tmp 14))),bN 18 12,au 19 10 18,(none,.op (.store 1 (.tmp 19) (.tmp 15)))]) (.skip),
  [],20⟩
theorem nZ:aT Tryz.prog 140 [4]=some jD:=by kernel_rfl
def iL:DF:=⟨.seq (ak [bQ 4 1,aJ 6 0]) <|
  .seq (ak [aa 8 0,bN 9 8,au 10 0 9,aK 11 4 10,au 12 0 4,aw 13 12,aH 14 139 [11,13],aa 7 14]) <|
  .seq (.block 0 (.seq (.region [] [⟨none,[aa 19 7,az 20 .geq 19 0,aa 21 20]⟩,⟨(some (21,true)),[aa 22 2]⟩,⟨none,[bz 23 21 22,aa 18 23]⟩]) <|
  .cond (.tmp 18) (.seq (ak [aa 24 7,((some 25),.op (.arith .sub (.val (.val (.int .i64 (-1)))) (.tmp 24))),aa 6 25]) <|
  .ret) (.seq (ak [aa 27 7,az 28 .geq 27 0,aa 26 28]) <|
  .cond (.tmp 26) (ak [aa 29 0,aK 30 2 4,cX 31 140 [(.tmp 29),(.tmp 30),(.val (.val (.int .i64 6)))]]) (.seq (.region [] [⟨none,[aa 33 0,bN 34 33,au 35 0 34,aK 36 4 35,au 37 0 4,aw 38 37,aH 39 152 [36,38],az 40 .geq 39 0,aa 41 40]⟩,⟨(some (41,false)),[au 42 0 4,aw 43 42,aH 44 192 [43]]⟩,⟨none,[bC 45 41 44,aa 46 45]⟩,⟨(some (46,false)),[au 47 0 4,aw 48 47,((some 49),.op (.iO .eql (.tmp 48) (.val (.val (.string ⟨#[101,114,114,111,114]⟩)))))]⟩,⟨none,[bC 50 46 49,aa 32 50]⟩]) <|
  .cond (.tmp 32) (.seq (ak [aa 51 0,aK 52 2 4,aH 53 223 [51,52],aa 6 53]) <|
  .ret) (ak [aa 15 0,aK 16 2 4,cX 17 140 [(.tmp 15),(.tmp 16),(.val (.val (.int .i64 6)))]]))))) <|
  .seq (ak [aJ 6 0]) <|
  .ret,
  [.tmp 6],54⟩
theorem my:aT Tryz.prog 186 [4]=some iL:=by kernel_rfl
def tV:DC :=
  .seq (.seq (ak [aa 6 5,au 7 1 2,aw 8 7,aR 9 8,aS 10 .lss 6 9]) <|
  .cond (.tmp 10) (.skip) (.exit 0)) <|
  .seq (.block 1 (.seq (ak [au 13 1 2,aw 14 13,aa 15 5,aZ 16 1 14 15,aw 17 16,aa 18 1,((some 19),.op (.iO .eql (.tmp 17) (.tmp 18)))]) <|
  .cond (.tmp 19) (.seq (ak [aa 20 5,aa 4 20]) <|
  .ret) (.skip))) <|
  ak [aa 11 5,az 12 .add 11 1,aa 5 12]
def od:DF:=⟨.seq (ak [bQ 2 0,aJ 4 0]) <|
  .seq (.seq (ak [aJ 5 0]) <|
  .block 0 (.loop tV)) <|
  .seq (ak [aJ 4 (-1)]) <|
  .ret,
  [.tmp 4],21⟩
theorem tg:aT Tryz.prog 139 [2]=some od:=by kernel_rfl
def sG:DC :=
  .seq (.seq (ak [aa 6 5,au 7 0 2,aw 8 7,aR 9 8,aS 10 .lss 6 9]) <|
  .cond (.tmp 10) (.skip) (.exit 0)) <|
  .seq (.block 1 (.seq (ak [au 13 0 2,aw 14 13,aa 15 5,aZ 16 3 14 15,au 17 0 16,aw 18 17,aa 19 1,((some 20),.op (.iO .eql (.tmp 18) (.tmp 19)))]) <|
  .cond (.tmp 20) (.seq (ak [aa 21 5,aa 4 21]) <|
  .ret) (.skip))) <|
  ak [aa 11 5,az 12 .add 11 1,aa 5 12]
def nI:DF:=⟨.seq (ak [bQ 2 0,aJ 4 0]) <|
  .seq (.seq (ak [aJ 5 0]) <|
  .block 0 (.loop sG)) <|
  .seq (ak [aJ 4 (-1)]) <|
  .ret,
  [.tmp 4],22⟩
theorem rB:aT Tryz.prog 152 [2]=some nI:=by kernel_rfl
def hO:DF:=⟨.seq (ak [bQ 3 1,aJ 4 0]) <|
  .seq (ak [aa 6 0,bN 7 6,au 8 0 7,aK 9 4 8,au 10 0 3,aw 11 10,aH 12 152 [9,11],aa 5 12]) <|
  .seq (.seq (ak [aa 13 5,az 14 .geq 13 0]) <|
  .cond (.tmp 14) (.seq (ak [aa 15 5,aa 4 15]) <|
  .ret) (.skip)) <|
  .seq (.seq (ak [aa 16 0,bN 17 16,au 18 0 17,au 19 0 18,aw 20 19,aR 21 20,az 22 .eql 21 24]) <|
  .cond (.tmp 22) (.seq (ak [aa 23 0,aK 24 2 3,cX 25 140 [(.tmp 23),(.tmp 24),(.val (.val (.int .i64 5)))]]) <|
  .seq (ak [aJ 4 0]) <|
  .ret) (.skip)) <|
  .seq (.region [] [⟨none,[aa 26 0,aa 27 0,bN 28 27,au 29 0 28,au 30 0 29,aw 31 30,au 32 0 3,aw 33 32,((some 34),.op (.build [(.val (.string ⟨#[]⟩)),(.val (.int .i64 0)),(.val (.int .i64 0))] [(0,1,(.tmp 33))])),((some 35),.op (.bF 1 3 [(.val (.string ⟨#[]⟩)),(.val (.int .i64 0)),(.val (.int .i64 0))] [(0,(.tmp 34))])),((some 36),.op (.app 3 32 (.tmp 31) (.tmp 35))),bN 37 26,au 38 0 37,au 39 0 38,(none,.op (.store 1 (.tmp 39) (.tmp 36)))]⟩]) <|
  .seq (ak [aa 40 0,bN 41 40,au 42 0 41,au 43 0 42,aw 44 43,aR 45 44,az 46 .sub 45 1,aa 4 46]) <|
  .ret,
  [.tmp 4],47⟩
theorem lD:aT Tryz.prog 223 [3]=some hO:=by kernel_rfl
def nR:DC :=
  .seq (.seq (.region [] [⟨none,[aa 60 7,au 61 1 5,aw 62 61,aR 63 62,aS 64 .lss 60 63,aa 65 64]⟩,⟨(some (65,true)),[aa 66 0,bN 67 66,au 68 10 67,aw 69 68,az 70 .eql 69 0]⟩,⟨none,[bz 71 65 70]⟩]) <|
  .cond (.tmp 71) (.skip) (.exit 2)) <|
  .seq (.block 3 (ak [aa 74 0,au 75 0 5,aw 76 75,au 77 1 5,aw 78 77,aa 79 7,aZ 80 2 78 79,aK 81 2 80,aH 82 185 [74,76,81]])) <|
  ak [aa 72 7,az 73 .add 72 1,aa 7 73]
def nQ:DC :=
  .seq (.seq (.region [] [⟨none,[aa 8 4,aa 9 1,aR 10 9,aS 11 .lss 8 10,aa 12 11]⟩,⟨(some (12,true)),[aa 13 0,bN 14 13,au 15 10 14,aw 16 15,az 17 .eql 16 0]⟩,⟨none,[bz 18 12 17]⟩]) <|
  .cond (.tmp 18) (.skip) (.exit 0)) <|
  .seq (.block 1 (.seq (ak [aa 21 1,aa 22 4,aZ 23 2 21 22,aK 24 2 23,((some 5),.op (.alloc [(.val (.int .i64 0)),(.emp 1)])),(none,.op (.store 2 (.tmp 5) (.tmp 24)))]) <|
  .seq (.seq (.region [] [⟨none,[au 25 0 5,aw 26 25,az 27 .lss 26 3,aa 28 27]⟩,⟨(some (28,false)),[au 29 0 5,aw 30 29,az 31 .gtr 30 7]⟩,⟨none,[bC 32 28 31]⟩]) <|
  .cond (.tmp 32) (.seq (.region [] [⟨none,[((some 33),.op (.build [(.val (.string ⟨#[]⟩)),(.val (.complex .f64 0 0))] [])),((some 6),.op (.alloc [(.val (.string ⟨#[]⟩)),(.val (.complex .f64 0 0))])),(none,.op (.store 2 (.tmp 6) (.tmp 33)))]⟩]) <|
  .seq (.seq (ak [au 34 1 5,aw 35 34,aR 36 35,az 37 .gtr 36 0]) <|
  .cond (.tmp 37) (ak [au 38 1 5,aw 39 38,((some 40),.op (.idx 2 (.tmp 39) (.val (.val (.int .i64 0))))),aK 41 2 40,(none,.op (.store 2 (.tmp 6) (.tmp 41)))]) (.skip)) <|
  .seq (ak [aa 42 0,aK 43 2 6,cX 44 140 [(.tmp 42),(.tmp 43),(.val (.val (.int .i64 3)))]]) <|
  .ret) (.skip)) <|
  .seq (.seq (.region [] [⟨none,[au 45 0 5,aw 46 45,az 47 .neq 46 3,aa 48 47]⟩,⟨(some (48,true)),[au 49 0 5,aw 50 49,az 51 .neq 50 7]⟩,⟨none,[bz 52 48 51]⟩]) <|
  .cond (.tmp 52) (ak [aa 53 0,bN 54 53,au 55 8 54,aw 56 55,az 57 .add 56 1,bN 58 53,au 59 8 58,(none,.op (.store 1 (.tmp 59) (.tmp 57)))]) (.skip)) <|
  .seq (ak [aJ 7 0]) <|
  .block 2 (.loop nR))) <|
  ak [aa 19 4,az 20 .add 19 1,aa 4 20]
def jg:DF:=⟨.seq (ak [aJ 4 0]) <|
  .block 0 (.loop nQ),
  [],83⟩
theorem nK:aT Tryz.prog 136 []=some jg:=by kernel_rfl
def iq:DF:=⟨.seq (ak [bQ 5 2]) <|
  .block 0 (.seq (.region [] [⟨none,[au 63 0 5,aw 64 63,aH 65 151 [64],b7 66 65,aa 67 66]⟩,⟨(some (67,false)),[aa 68 1,az 69 .eql 68 7,aa 70 69]⟩,⟨(some (70,true)),[au 71 0 5,aw 72 71,aH 73 154 [72],b7 74 73]⟩,⟨(some (67,false)),[bz 75 70 74]⟩,⟨none,[bC 76 67 75,aa 62 76]⟩]) <|
  .cond (.tmp 62) (ak [aa 77 0,aK 78 2 5,cX 79 140 [(.tmp 77),(.tmp 78),(.val (.val (.int .i64 3)))]]) (.seq (ak [aa 81 1,az 82 .eql 81 7,aa 80 82]) <|
  .cond (.tmp 80) (.seq (.seq (ak [aa 83 0,bN 84 83,au 85 7 84,aw 86 85]) <|
  .cond (.tmp 86) (ak [aa 87 0,aK 88 2 5,cX 89 140 [(.tmp 87),(.tmp 88),(.val (.val (.int .i64 7)))]]) (.skip)) <|
  ak [aa 90 0,aa 91 0,aK 92 2 5,bN 93 90,au 94 5 93,(none,.op (.store 2 (.tmp 94) (.tmp 92))),bN 95 91,au 96 7 95,(none,.op (.store 1 (.tmp 96) (.val (.val (.bool true)))))]) (.seq (ak [aa 98 1,az 99 .eql 98 3,aa 97 99]) <|
  .cond (.tmp 97) (.seq (.seq (ak [aa 100 0,bN 101 100,au 102 4 101,aw 103 102,au 104 0 5,aw 105 104,aH 106 222 [103,105]]) <|
  .cond (.tmp 106) (ak [aa 107 0,aK 108 2 5,cX 109 140 [(.tmp 107),(.tmp 108),(.val (.val (.int .i64 7)))]]) (.skip)) <|
  .seq (.region [] [⟨none,[aa 110 0,aa 111 0,bN 112 111,au 113 4 112,aw 114 113,au 115 0 5,aw 116 115,((some 117),.op (.bF 1 1 [(.val (.string ⟨#[]⟩))] [(0,(.tmp 116))])),((some 118),.op (.app 1 16 (.tmp 114) (.tmp 117))),bN 119 110,au 120 4 119,(none,.op (.store 1 (.tmp 120) (.tmp 118)))]⟩]) <|
  ak [aa 121 0,aK 122 2 5,aH 123 223 [121,122]]) (.seq (ak [aa 7 0,bN 8 7,au 9 0 8,aK 10 4 9,au 11 0 5,aw 12 11,aH 13 152 [10,12],aa 6 13]) <|
  .seq (.seq (.region [] [⟨none,[aa 14 6,az 15 .geq 14 0,aa 16 15]⟩,⟨(some (16,true)),[aa 17 0,bN 18 17,au 19 0 18,au 20 0 19,aw 21 20,aa 22 6,aZ 23 3 21 22,au 24 1 23,aw 25 24,az 26 .gtr 25 0]⟩,⟨none,[bz 27 16 26]⟩]) <|
  .cond (.tmp 27) (.seq (ak [aa 28 0,aK 29 2 5,cX 30 140 [(.tmp 28),(.tmp 29),(.val (.val (.int .i64 7)))]]) <|
  .ret) (.skip)) <|
  .seq (ak [aa 31 0,aK 32 2 5,aH 33 223 [31,32],aa 6 33]) <|
  .seq (ak [aa 34 0,bN 35 34,au 36 10 35,aw 37 36,az 38 .eql 37 0]) <|
  .cond (.tmp 38) (ak [aa 39 0,bN 40 39,au 41 0 40,au 42 0 41,aw 43 42,aa 44 6,aa 45 0,bN 46 45,au 47 0 46,au 48 0 47,aw 49 48,aa 50 6,aa 51 0,bN 52 51,au 53 8 52,aw 54 53,aa 55 1,az 56 .sub 55 4,az 57 .add 56 1,aZ 58 3 43 44,au 59 1 58,(none,.op (.store 1 (.tmp 59) (.tmp 54))),aZ 60 3 49 50,au 61 2 60,(none,.op (.store 1 (.tmp 61) (.tmp 57)))]) (.skip))))),
  [],124⟩
theorem lK:aT Tryz.prog 185 [5]=some iq:=by kernel_rfl
def tT:DC :=
  .seq (.seq (ak [aa 6 5,aa 7 0,aR 8 7,aS 9 .lss 6 8]) <|
  .cond (.tmp 9) (.skip) (.exit 0)) <|
  .seq (.block 1 (.seq (ak [aa 12 0,aa 13 5,aZ 14 1 12 13,aw 15 14,aa 16 1,((some 17),.op (.iO .eql (.tmp 15) (.tmp 16)))]) <|
  .cond (.tmp 17) (.seq (ak [aY 4 true]) <|
  .ret) (.skip))) <|
  ak [aa 10 5,az 11 .add 10 1,aa 5 11]
def ox:DF:=⟨.seq (ak [aY 4 false]) <|
  .seq (.seq (ak [aJ 5 0]) <|
  .block 0 (.loop tT)) <|
  .seq (ak [aY 4 false]) <|
  .ret,
  [.tmp 4],18⟩
theorem sx:aT Tryz.prog 222 []=some ox:=by kernel_rfl
def nU:DC :=
  .seq (.seq (.region [] [⟨none,[aa 6 4,aa 7 1,aR 8 7,aS 9 .lss 6 8,aa 10 9]⟩,⟨(some (10,true)),[aa 11 0,bN 12 11,au 13 10 12,aw 14 13,az 15 .eql 14 0]⟩,⟨none,[bz 16 10 15]⟩]) <|
  .cond (.tmp 16) (.skip) (.exit 0)) <|
  .seq (.block 1 (.seq (.region [] [⟨none,[aa 19 1,aa 20 4,aZ 21 5 19 20,au 22 0 21,aK 23 2 22,((some 5),.op (.alloc [(.val (.string ⟨#[]⟩)),(.val (.complex .f64 0 0))])),(none,.op (.store 2 (.tmp 5) (.tmp 23)))]⟩]) <|
  .block 2 (.seq (ak [au 38 0 5,aw 39 38,aH 40 154 [39],b7 41 40,aa 37 41]) <|
  .cond (.tmp 37) (ak [aa 42 0,aK 43 2 5,cX 44 140 [(.tmp 42),(.tmp 43),(.val (.val (.int .i64 3)))]]) (.seq (ak [aa 46 0,bN 47 46,au 48 0 47,aK 49 4 48,au 50 0 5,aw 51 50,aH 52 152 [49,51],az 53 .geq 52 0,aa 45 53]) <|
  .cond (.tmp 45) (ak [aa 54 0,aK 55 2 5,cX 56 140 [(.tmp 54),(.tmp 55),(.val (.val (.int .i64 7)))]]) (.seq (ak [aa 58 0,bN 59 58,au 60 0 59,aK 61 4 60,au 62 0 5,aw 63 62,aH 64 139 [61,63],az 65 .geq 64 0,aa 57 65]) <|
  .cond (.tmp 57) (.skip) (.seq (ak [aa 67 0,bN 68 67,au 69 0 68,au 70 1 69,aw 71 70,aR 72 71,az 73 .eql 72 16,aa 66 73]) <|
  .cond (.tmp 66) (ak [aa 74 0,aK 75 2 5,cX 76 140 [(.tmp 74),(.tmp 75),(.val (.val (.int .i64 5)))]]) (.region [] [⟨none,[aa 24 0,aa 25 0,bN 26 25,au 27 0 26,au 28 1 27,aw 29 28,au 30 0 5,aw 31 30,((some 32),.op (.bF 1 1 [(.val (.string ⟨#[]⟩))] [(0,(.tmp 31))])),((some 33),.op (.app 1 16 (.tmp 29) (.tmp 32))),bN 34 24,au 35 0 34,au 36 1 35,(none,.op (.store 1 (.tmp 36) (.tmp 33)))]⟩]))))))) <|
  ak [aa 17 4,az 18 .add 17 1,aa 4 18]
def iS:DF:=⟨.seq (ak [aJ 4 0]) <|
  .block 0 (.loop nU),
  [],77⟩
theorem nr:aT Tryz.prog 137 []=some iS:=by kernel_rfl
def zL:List (FuncId × DF):=[(49,nL),(94,l0),(134,kX),(177,m8),(212,om),(213,nf),(214,nD),(215,lf),(232,k7),(178,o8),(216,pE),(179,ov),(194,ma),(193,lU),(192,kn),(217,kC),(218,kB),(219,m0),(135,pC),(183,iK),(182,ir),(220,iD),(221,jA),(181,iH),(184,iI),(180,iu),(95,lT),(138,jG),(151,l8),(154,na),(140,jD),(186,iL),(139,od),(152,nI),(223,hO),(136,jg),(185,iq),(222,ox),(137,iS)]
theorem GD:sW Tryz.prog zL:=by
  intro p hp
  simp only[zL,List.mem_cons,List.not_mem_nil,or_false] at hp
  rcases hp with rfl | rfl | rfl | rfl | rfl | rfl | rfl | rfl | rfl | rfl | rfl | rfl | rfl | rfl | rfl | rfl | rfl | rfl | rfl | rfl | rfl | rfl | rfl | rfl | rfl | rfl | rfl | rfl | rfl | rfl | rfl | rfl | rfl | rfl | rfl | rfl | rfl | rfl | rfl
  · exact ⟨_,r7⟩
  · exact ⟨_,qI⟩
  · exact ⟨_,pS⟩
  · exact ⟨_,rV⟩
  · exact ⟨_,sU⟩
  · exact ⟨_,rS⟩
  · exact ⟨_,rK⟩
  · exact ⟨_,pT⟩
  · exact ⟨_,pR⟩
  · exact ⟨_,uc⟩
  · exact ⟨_,ue⟩
  · exact ⟨_,s6⟩
  · exact ⟨_,qL⟩
  · exact ⟨_,qK⟩
  · exact ⟨_,pk⟩
  · exact ⟨_,pt⟩
  · exact ⟨_,pz⟩
  · exact ⟨_,r9⟩
  · exact ⟨_,tZ⟩
  · exact ⟨_,ml⟩
  · exact ⟨_,lM⟩
  · exact ⟨_,me⟩
  · exact ⟨_,nT⟩
  · exact ⟨_,mw⟩
  · exact ⟨_,mh⟩
  · exact ⟨_,lL⟩
  · exact ⟨_,qO⟩
  · exact ⟨_,n0⟩
  · exact ⟨_,qF⟩
  · exact ⟨_,rA⟩
  · exact ⟨_,nZ⟩
  · exact ⟨_,my⟩
  · exact ⟨_,tg⟩
  · exact ⟨_,rB⟩
  · exact ⟨_,lD⟩
  · exact ⟨_,nK⟩
  · exact ⟨_,lK⟩
  · exact ⟨_,sx⟩
  · exact ⟨_,nr⟩
def Cj (l:List Int):V:=.aP (l.map fun x=>[gy x])
theorem Jm (l:List Int):Tree (Cj l):=fv _ _ fun x _ v hv=>by simp at hv; subst hv; exact .val _
def vT (g:ao):V:=.bg [.agg (ax g),.val (.complex .f64 0 0),gi 0]
theorem LX {l:List Int} {g:ao} (h:v7 Tryz.prog zL (fun _ _ _=>none) 49 [Cj l]=some (vT g)):dR Tryz.prog 49 [Cj l] (vT g) :=
  tn mixed GD (Lt _) (by intro v hv; simp at hv; subst hv; exact Jm _) h
abbrev cd (κ:Type):=List (κ × V × Nat)
def dC {κ:Type} (key:κ→Value) (m:cd κ):List (V × V × Nat):=m.map fun x=>(.val (key x.1),x.2.1,x.2.2)
def getM {κ:Type} [BEq κ] (m:cd κ) (k:κ):Option V:=(m.find? fun x=>k == x.1).map (·.2.1)
def cy {κ:Type} [BEq κ] (k:κ) (v:V) (c:Nat):cd κ→cd κ
  | []=>[(k,v,c)]
  | x :: r=>if k == x.1 then (k,v,x.2.2) :: r else x :: cy k v c r
structure zK {κ:Type} [BEq κ] (P:Program) (kt:TypeId) (key:κ→Value):Prop where
  ty:∃ d,P.underlying kt=some d∧(∀ a b,Instr.sameNow d (key a) (key b)=some (a == b))∧(∀ a e,bp P (Instr.checkKey e 10000 kt (key a))=some ())
  bits:∀ a b,(a == b)=true→Instr.sameBits 10000 (key b) (key a)=true
theorem rp {κ:Type} (key:κ→Value):∀ m:cd κ,ic (dC key m)=some (m.map fun x=>{ key:=key x.1,val:=.nilFunc,born:=x.2.2 })
  | []=>rfl
  | x :: r=>by
    have:=rp key r
    simp only[dC] at this
    simp[dC,ic,cD,this]
def je {κ:Type} [BEq κ] (k:κ):cd κ→Option Nat
  | []=>none
  | x :: r=>if k == x.1 then some 0 else (je k r).map (·+1)
theorem wg {κ:Type} [BEq κ] {key:κ→Value} {d:TypeDesc} (h:∀ a b,Instr.sameNow d (key a) (key b)=some (a == b)) (k:κ):∀ (m:cd κ) (i:Nat),
    Instr.findNow d (key k) (m.map fun x=>{ key:=key x.1,val:=.nilFunc,born:=x.2.2 }) i=some ((je k m).map fun j=>(i+j,.nilFunc))
  | [],i=>rfl
  | x :: r,i=>by
    simp only[List.map_cons,Instr.findNow,h,je]
    cases hk:k == x.1 with
    | true=>simp
    | false =>
      simp only[wg h k r (i+1),Bool.false_eq_true,if_false,Option.map_map]
      congr 2
      funext j
      simp only[Function.comp]
      congr 1
      omega
theorem uR {κ:Type} [BEq κ] {P:Program} {kt:TypeId} {key:κ→Value} (h:zK P kt key) (k:κ) (e:Bool) (m:cd κ):kU P kt (.val (key k)) e (dC key m)=some (je k m):=by
  obtain ⟨d,hd,hn,hc⟩:=h.ty
  have hu:bp P (underlying kt)=some d:=dO hd
  simp only[kU,cD,rp,bh,hc,Option.bind_some]
  have:bp P (Instr.findKey kt (key k) (m.map fun x=>{ key:=key x.1,val:=.nilFunc,born:=x.2.2 }))=some ((je k m).map fun j=>(0+j,.nilFunc)):=by
    unfold Instr.findKey
    rw[bh,hu,Option.bind_some,wg hn]
    rfl
  rw[this]
  cases je k m with
  | none=>rfl
  | some j=>simp
theorem Hq {P:Program} {kt:TypeId} {d:TypeDesc} (h:P.underlying kt=some d) (hd:match d with | .int _ | .string | .bool=>True | _=>False) (e:Bool) (n:Nat) (v:Value):bp P (Instr.checkKey e (n+1) kt v)=some ():=by
  unfold Instr.checkKey
  rw[bh,dO h,Option.bind_some]
  cases d <;> first | exact hd.elim | rfl
theorem m4 {P:Program} {kt:TypeId} (k:IntKind) (h:P.underlying kt=some (.int k)):zK P kt (Value.int k) where
  ty:=⟨_,h,fun a b=>by simp[Instr.sameNow],fun a e=>Hq h trivial e 9999 _⟩
  bits:=fun a b hab=>by
    have:a=b:=by simpa using hab
    subst this
    simp[Instr.sameBits]
theorem si {κ:Type} [BEq κ] {key:κ→Value} (k:κ):∀ m:cd κ,match je k m with
    | some i=>∃ x,m[i]?=some x∧(k == x.1)=true∧getM m k=some x.2.1∧(dC key m)[i]?=some (.val (key x.1),x.2.1,x.2.2)∧∀ v c,(dC key m).set i (.val (key k),v,x.2.2)=dC key (cy k v c m)∧(cy k v c m).length=m.length
    | none=>getM m k=none∧∀ v c,dC key m ++ [(.val (key k),v,c)]=dC key (cy k v c m)∧(cy k v c m).length=m.length+1
  | []=>⟨rfl,fun v c=>⟨rfl,rfl⟩⟩
  | x :: r=>by
    have ih:=si (key:=key) k r
    simp only[je]
    cases hk:k == x.1 with
    | true=>exact ⟨x,rfl,hk,by simp[getM,hk],rfl,fun v c=>by simp[cy,hk,dC]⟩
    | false =>
      simp only[Bool.false_eq_true,if_false]
      cases hi:je k r with
      | some i =>
        rw[hi] at ih
        obtain ⟨y,h1,h2,h3,h4,h5⟩:=ih
        refine ⟨y,by simpa using h1,h2,by simpa [getM,hk] using h3,by simpa [dC] using h4,fun v c=>?_⟩
        obtain ⟨g1,g2⟩:=h5 v c
        exact ⟨by simp only[dC] at g1 ⊢; simp[cy,hk,g1],by simp[cy,hk,g2]⟩
      | none =>
        rw[hi] at ih
        refine ⟨by simpa [getM,hk] using ih.1,fun v c=>?_⟩
        obtain ⟨g1,g2⟩:=ih.2 v c
        exact ⟨by simp only[dC] at g1 ⊢; simp[cy,hk,g1],by simp[cy,hk,g2]⟩
section
variable {P:Program} {T:Env} {H:View} {κ:Type} [BEq κ] {key:κ→Value} {kt et t ty:TypeId}
theorem B8 {K:V→View→Prop} {w:cq (T,H,K)} {x i:Operand} {z:V} {id c:Nat} {m:cd κ} {k:κ} (hm:eO P t=some (kt,et)) (hz:zeroV P et=some z) (hk:zK P kt key)
    (hx:ev T x=.mp id) (hi:ev T i=.val (key k)) (hH:H id=.map (dC key m) c) (h:K ((getM m k).getD z) H):tc P (.lookup t x i false) ty T H K w:=by
  intro n _
  have hf:=uR hk k (dC key m).isEmpty m
  have hg:=si (key:=key) k m
  refine ⟨(getM m k).getD z,.none,[id],?_,h⟩
  simp only[sI,bO,oper,eP,hm,hz,hx,hi,hH,hf]
  cases hj:je k m with
  | some j =>
    rw[hj] at hg
    obtain ⟨y,h1,h2,h3,h4,_⟩:=hg
    simp[h4,h3]
  | none =>
    rw[hj] at hg
    simp[hg.1]
theorem NJ {K:V→View→Prop} {w:cq (T,H,K)} {x i:Operand} {z:V} {id c:Nat} {m:cd κ} {k:κ} (hm:eO P t=some (kt,et)) (hz:zeroV P et=some z) (hk:zK P kt key)
    (hx:ev T x=.mp id) (hi:ev T i=.val (key k)) (hH:H id=.map (dC key m) c) (h:K (.bg [(getM m k).getD z,.val (.bool (getM m k).isSome)]) H):tc P (.lookup t x i true) ty T H K w:=by
  intro n _
  have hf:=uR hk k (dC key m).isEmpty m
  have hg:=si (key:=key) k m
  refine ⟨_,.none,[id],?_,h⟩
  simp only[sI,bO,oper,eP,hm,hz,hx,hi,hH,hf]
  cases hj:je k m with
  | some j =>
    rw[hj] at hg
    obtain ⟨y,h1,h2,h3,h4,_⟩:=hg
    simp[h4,h3]
  | none =>
    rw[hj] at hg
    simp[hg.1]
theorem Lo (hk:zK P kt key) (k k':κ) (h:(k == k')=true):sameKey (.val (key k')) (.val (key k))=true:=by
  simp only[sameKey,cD]; exact hk.bits _ _ h
theorem DS {K:V→View→Prop} {w:cq (T,H,K)} {x i y:Operand} {id c:Nat} {m:cd κ} {k:κ} {v:V} (hm:eO P t=some (kt,et)) (hk:zK P kt key)
    (hx:ev T x=.mp id) (hi:ev T i=.val (key k)) (hy:ev T y=v) (hH:H id=.map (dC key m) c)
    (h:∀ c',K .any (H.set id (.map (dC key (cy k v c m)) c'))):tc P (.mapUpdate t x i y) ty T H K w:=by
  intro n _
  have hf:=uR hk k false m
  have hg:=si (key:=key) k m
  cases hj:je k m with
  | some j =>
    rw[hj] at hg hf
    obtain ⟨z,h1,h2,h3,h4,h5⟩:=hg
    refine ⟨.any,.eF id (.map ((dC key m).set j (.val (key k),v,z.2.2)) c),[id],?_,?_⟩
    · simp only[sI,bO,oper,e9,hm,hx,hi,hy,hH,hf,h4,Lo hk k z.1 h2,if_true]
    · rw[(h5 v c).1]; exact h c
  | none =>
    rw[hj] at hg hf
    refine ⟨.any,.eF id (.map (dC key m ++ [(.val (key k),v,c)]) (c+1)),[id],?_,?_⟩
    · simp only[sI,bO,oper,e9,hm,hx,hi,hy,hH,hf]
    · rw[(hg.2 v c).1]; exact h (c+1)
omit [BEq κ] in
theorem MX {K:V→View→Prop} {w:cq (T,H,K)} {x:Operand} {id c:Nat} {m:cd κ} (hm:eO P t=some (kt,et)) (hx:ev T x=.mp id) (hH:H id=.map (dC key m) c) (h:K (aj m.length) H) :
    tc P (.call { callee:=.builtin .len,args:=#[x],argTypes:=#[t] }) ty T H K w:=by
  intro n _
  have hu:∃ a b,P.underlying t=some (.map a b):=by
    unfold eO at hm
    split at hm
    · rename_i a b h1; exact ⟨a,b,h1⟩
    · simp at hm
  obtain ⟨a,b,hu⟩:=hu
  refine ⟨aj m.length,.none,[id],?_,h⟩
  have hl:(dC key m).length=m.length:=by simp[dC]
  simp only[sI,bO,oper,List.size_toArray,List.length_cons,List.length_nil,qG,hu,hx,hH,hl]
  simp[hu,hx,hH,hl,qG]
end
theorem xh {κ:Type} [BEq κ] [LawfulBEq κ] (k k':κ) (v:V) (c:Nat):∀ m:cd κ,getM (cy k v c m) k'=if k' == k then some v else getM m k'
  | []=>by
    by_cases h:k'=k
    · subst h; simp[cy,getM]
    · simp[cy,getM,h]
  | x :: r=>by
    have ih:=xh k k' v c r
    simp only[cy]
    by_cases hk:k=x.1
    · by_cases h:k'=k
      · subst h; simp[hk,getM]
      · have:¬ k'=x.1:=fun e=>h (e.trans hk.symm)
        simp[hk,getM,this]
    · simp only[beq_iff_eq,hk,if_false]
      by_cases h:k'=x.1
      · have:¬ k'=k:=fun e=>hk (e.symm.trans h)
        simp[getM,h]
        subst h
        simp[this]
      · simp only[getM,List.find?_cons,beq_eq_false_iff_ne.2 h] at ih ⊢
        exact ih
def dm {κ β:Type} [BEq κ] (a:List (κ × β)) (k:κ):Option β:=(a.find? fun x=>k == x.1).map (·.2)
def iy {κ β:Type} [BEq κ] (k:κ) (v:β):List (κ × β)→List (κ × β)
  | []=>[(k,v)]
  | x :: r=>if k == x.1 then (k,v) :: r else x :: iy k v r
def lp {κ β:Type} (encV:β→V):List (κ × β)→cd κ→Prop
  | [],[]=>True
  | x :: a,y :: m=>y.1=x.1∧y.2.1=encV x.2∧lp encV a m
  | _,_=>False
theorem lp.get {κ β:Type} [BEq κ] {encV:β→V} (k:κ):∀ {a:List (κ × β)} {m:cd κ},lp encV a m→getM m k=(dm a k).map encV
  | [],[],_=>rfl
  | x :: a,y :: m,⟨h1,h2,h3⟩=>by
    have ih:=lp.get k h3
    simp only[getM,dm,List.find?_cons,h1] at ih ⊢
    cases k == x.1 with
    | true=>simp[h2]
    | false=>simpa using ih
theorem lp.put {κ β:Type} [BEq κ] {encV:β→V} (k:κ) (v:β) (c:Nat):∀ {a:List (κ × β)} {m:cd κ},lp encV a m→lp encV (iy k v a) (cy k (encV v) c m)
  | [],[],_=>⟨rfl,rfl,trivial⟩
  | x :: a,y :: m,⟨h1,h2,h3⟩=>by
    have ih:=lp.put k v c h3
    simp only[iy,cy,h1]
    cases k == x.1 with
    | true=>exact ⟨rfl,rfl,h3⟩
    | false=>exact ⟨h1,h2,ih⟩
theorem lp.len {κ β:Type} {encV:β→V} : ∀ {a:List (κ × β)} {m:cd κ},lp encV a m→m.length=a.length
  | [],[],_=>rfl
  | x :: a,y :: m,⟨_,_,h3⟩=>by simp[lp.len h3]
theorem Db {κ β:Type} [BEq κ] [LawfulBEq κ] (k k':κ) (v:β):∀ a:List (κ × β),dm (iy k v a) k'=if k' == k then some v else dm a k'
  | []=>by
    by_cases h:k'=k
    · subst h; simp[iy,dm]
    · simp[iy,dm,h]
  | x :: r=>by
    have ih:=Db k k' v r
    simp only[iy]
    by_cases hk:k=x.1
    · by_cases h:k'=k
      · subst h; simp[hk,dm]
      · have:¬ k'=x.1:=fun e=>h (e.trans hk.symm)
        simp[hk,dm,this]
    · simp only[beq_iff_eq,hk,if_false]
      by_cases h:k'=x.1
      · have:¬ k'=k:=fun e=>hk (e.symm.trans h)
        simp[dm,h]
        subst h
        simp[this]
      · simp only[dm,List.find?_cons,beq_eq_false_iff_ne.2 h] at ih ⊢
        exact ih
def Ga (n k:Nat) (J:Nat→Env→View→Prop) (T:Env) (H:View):Prop:=∃ i,i+k=n∧J i T H
theorem bH.up {P:Program} {T:Env} {H:View} {c:SC} {Q:Exit→Env→View→Prop} {v:cq (T,H,Q)} (n:Nat) (J:Nat→Env→View→Prop) (h0:J 0 T H)
    (hs:∀ i k T H,i+k=n→J i T H→wS P c T H fun e T' H'=>wZ e (∃ k',k' < k∧Ga n k' J T' H') (Q e T' H')):bH P c T H Q v :=
  bH.intro (fun k T H=>Ga n k J T H) n ⟨0,by omega,h0⟩ fun k T H ⟨i,hk,hj⟩=>hs i k T H hk hj
theorem bD {n i k:Nat} {J:Nat→Env→View→Prop} {T:Env} {H:View} (hk:i+k=n) (hlt:i < n) (hJ:J (i+1) T H):∃ k',k' < k∧Ga n k' J T H:=⟨k - 1,by omega,i+1,by omega,hJ⟩
end Gv
