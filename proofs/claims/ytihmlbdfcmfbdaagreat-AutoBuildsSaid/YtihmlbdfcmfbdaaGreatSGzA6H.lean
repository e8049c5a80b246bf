/-
  Part 8 of the proof: what the machine does and what the functions answer.
  Conditions: those that each lemma names.
-/
import Derived.Test.YtihmlbdfcmfbdaaGreatSGzA6G
set_option linter.unusedSimpArgs false
set_option linter.unusedVariables false
set_option maxRecDepth 100000
namespace Gv
open Go Go.Proofs
def oH:DF:=⟨.seq (al [((some 2),.op (.alloc [(.emp 1),(.emp 1),(.emp 1),(.val (.int .i64 0))])),((some 3),.op (.bm (.val (.val (.complex .f64 0 0))))),aF 4 0]) <|
  .seq (al [aa 9 0,aI 10 94 [9],aa 8 10,cG 11 0 8,cG 12 1 8,cG 13 2 8,((some 5),.op (.alloc [(.emp 1),(.emp 1)])),(none,.op (.store 2 (.tmp 5) (.tmp 11))),aa 6 12,aa 7 13]) <|
  .seq (.seq (al [aa 14 7,aA 15 .neq 14 0]) <|
  .cond (.tmp 15) (.seq (al [((some 16),.op (.build [(.emp 1),(.emp 1),(.emp 1),(.val (.int .i64 0))] [])),aa 17 6,aa 18 7,(none,.op (.store 4 (.tmp 2) (.tmp 16))),aa 3 17,aa 4 18]) <|
  .ret) (.skip)) <|
  .seq (al [aK 19 2 5,aI 20 95 [19],cG 21 0 20,cG 22 1 20,cG 23 2 20,(none,.op (.store 4 (.tmp 2) (.tmp 21))),aa 3 22,aa 4 23]) <|
  .ret,
  [.cell 2 (some 4),.tmp 3,.tmp 4],24⟩
theorem tN:aY Tryz.prog 49 []=some oH:=by kernel_rfl
def mX:DF:=⟨.seq (al [((some 2),.op (.alloc [(.emp 1),(.emp 1)])),((some 3),.op (.bm (.val (.val (.complex .f64 0 0))))),aF 4 0]) <|
  .seq (al [aa 9 0,aI 10 134 [9],aa 8 10,cG 11 0 8,cG 12 1 8,cG 13 2 8,aa 5 11,aa 6 12,aa 7 13]) <|
  .seq (.seq (al [aa 14 7,aA 15 .neq 14 0]) <|
  .cond (.tmp 15) (.seq (al [((some 16),.op (.build [(.emp 1),(.emp 1)] [])),aa 17 6,aa 18 7,(none,.op (.store 2 (.tmp 2) (.tmp 16))),aa 3 17,aa 4 18]) <|
  .ret) (.skip)) <|
  .seq (al [aa 19 5,aa 20 6,aI 21 135 [19,20],cG 22 0 21,cG 23 1 21,cG 24 2 21,(none,.op (.store 2 (.tmp 2) (.tmp 22))),aa 3 23,aa 4 24]) <|
  .ret,
  [.cell 2 (some 2),.tmp 3,.tmp 4],25⟩
theorem sr:aY Tryz.prog 94 []=some mX:=by kernel_rfl
def sg:DC :=
  .seq (.seq (.region [] [⟨none,[aa 16 6,aa 17 0,aJ 18 17,aN 19 .lss 16 18,aa 20 19]⟩,⟨(some (20,true)),[aa 21 7,aA 22 .lss 21 2]⟩,⟨none,[bG 23 20 22]⟩]) <|
  .cond (.tmp 23) (.skip) (.exit 0)) <|
  .block 1 (.seq (al [aa 25 0,aa 26 6,aI 27 177 [25,26],aa 24 27,cG 28 0 24,cG 29 1 24,aa 8 28,aa 9 29]) <|
  .seq (.seq (al [aa 30 8,aA 31 .lss 30 0]) <|
  .cond (.tmp 31) (.seq (al [aa 32 0,aa 33 6,aI 34 178 [32,33],((some 2),.op (.bm (.val (.emp 1)))),aa 3 34,aF 4 4]) <|
  .ret) (.skip)) <|
  .seq (.seq (al [aa 35 9]) <|
  .cond (.tmp 35) (.seq (al [aa 36 8,aa 6 36]) <|
  .exit 1) (.skip)) <|
  .seq (.region [] [⟨none,[aa 38 0,aa 39 6,aI 40 179 [38,39],aa 37 40,cG 41 0 37,cG 42 1 37,cG 43 2 37,((some 10),.op (.alloc [(.val (.int .i64 0)),(.val (.string ⟨#[]⟩)),(.val (.complex .f64 0 0))])),(none,.op (.store 3 (.tmp 10) (.tmp 41))),aa 11 42,aa 12 43]⟩]) <|
  .seq (.seq (al [aa 44 12,aA 45 .neq 44 0]) <|
  .cond (.tmp 45) (.seq (al [av 46 2 10,au 47 46,aa 48 12,((some 2),.op (.bm (.val (.emp 1)))),aa 3 47,aa 4 48]) <|
  .ret) (.skip)) <|
  .seq (.seq (al [av 49 0 10,au 50 49,aA 51 .eql 50 9]) <|
  .cond (.tmp 51) (al [aa 52 7,aA 53 .add 52 1,aa 7 53]) (.skip)) <|
  .region [] [⟨none,[aa 54 5,aK 55 3 10,((some 56),.op (.bC 1 3 [(.val (.int .i64 0)),(.val (.string ⟨#[]⟩)),(.val (.complex .f64 0 0))] [(0,(.tmp 55))])),((some 57),.op (.app 3 40 (.tmp 54) (.tmp 56))),aa 58 11,aa 5 57,aa 6 58]⟩])
def mb:DF:=⟨.seq (al [((some 2),.op (.bm (.val (.emp 1)))),((some 3),.op (.bm (.val (.val (.complex .f64 0 0))))),aF 4 0]) <|
  .seq (.seq (al [aa 13 0,aJ 14 13,aA 15 .gtr 14 4000]) <|
  .cond (.tmp 15) (.seq (al [((some 2),.op (.bm (.val (.emp 1)))),((some 3),.op (.bm (.val (.val (.complex .f64 0 0))))),aF 4 5]) <|
  .ret) (.skip)) <|
  .seq (al [((some 5),.op (.bm (.val (.emp 1))))]) <|
  .seq (al [aF 6 0,aF 7 0]) <|
  .seq (.block 0 (.loop sg)) <|
  .seq (al [aa 59 5,aa 60 0,aa 61 0,aJ 62 61,aI 63 178 [60,62],aa 2 59,aa 3 63,aF 4 0]) <|
  .ret,
  [.tmp 2,.tmp 3,.tmp 4],64⟩
theorem q9:aY Tryz.prog 134 []=some mb:=by kernel_rfl
def oz:DF:=⟨.seq (al [aF 4 0,aX 5 false]) <|
  .seq (.block 0 (.seq (.region [] [⟨none,[aa 7 0,aa 8 1,aP 9 1 7 8,au 10 9,((some 11),.op (.arith .eql (.tmp 10) (.val (.val (.int .u8 32))))),aa 12 11]⟩,⟨(some (12,false)),[aa 13 0,aa 14 1,aP 15 1 13 14,au 16 15,((some 17),.op (.arith .eql (.tmp 16) (.val (.val (.int .u8 9)))))]⟩,⟨none,[bJ 18 12 17,aa 19 18]⟩,⟨(some (19,false)),[aa 20 0,aa 21 1,aP 22 1 20 21,au 23 22,((some 24),.op (.arith .eql (.tmp 23) (.val (.val (.int .u8 10)))))]⟩,⟨none,[bJ 25 19 24,aa 26 25]⟩,⟨(some (26,false)),[aa 27 0,aa 28 1,aP 29 1 27 28,au 30 29,((some 31),.op (.arith .eql (.tmp 30) (.val (.val (.int .u8 13)))))]⟩,⟨none,[bJ 32 26 31,aa 6 32]⟩]) <|
  .cond (.tmp 6) (.seq (al [aa 33 1,aA 34 .add 33 1,aa 4 34,aX 5 true]) <|
  .ret) (.seq (.region [] [⟨none,[aa 36 0,aa 37 1,c9 38 212 [(.tmp 36),(.tmp 37),(.val (.val (.string ⟨#[47,42]⟩)))],aa 35 38]⟩]) <|
  .cond (.tmp 35) (.seq (.region [] [⟨none,[aa 39 0,aa 40 1,aA 41 .add 40 2,c9 42 213 [(.tmp 39),(.tmp 41),(.val (.val (.string ⟨#[42,47]⟩)))],aa 4 42,aX 5 true]⟩]) <|
  .ret) (.seq (.region [] [⟨none,[aa 44 0,aa 45 1,c9 46 212 [(.tmp 44),(.tmp 45),(.val (.val (.string ⟨#[47,47]⟩)))],aa 43 46]⟩]) <|
  .cond (.tmp 43) (.seq (al [aa 47 0,aa 48 1,aI 49 214 [47,48],aa 4 49,aX 5 true]) <|
  .ret) (.seq (.region [] [⟨none,[aa 51 0,aa 52 1,c9 53 212 [(.tmp 51),(.tmp 52),(.val (.val (.string ⟨#[37,123]⟩)))],aa 50 53]⟩]) <|
  .cond (.tmp 50) (.seq (.region [] [⟨none,[aa 54 0,aa 55 1,aA 56 .add 55 2,c9 57 213 [(.tmp 54),(.tmp 56),(.val (.val (.string ⟨#[37,125]⟩)))],aa 4 57,aX 5 true]⟩]) <|
  .ret) (.seq (al [aa 59 0,aa 60 1,aP 61 1 59 60,au 62 61,((some 63),.op (.arith .eql (.tmp 62) (.val (.val (.int .u8 60))))),aa 58 63]) <|
  .cond (.tmp 58) (.seq (.region [] [⟨none,[aa 64 0,aa 65 0,aa 66 1,aI 67 214 [65,66],((some 68),.op (.slice 1 (.tmp 64) none (some (.tmp 67)))),aa 69 1,aA 70 .add 69 1,c9 71 213 [(.tmp 68),(.tmp 70),(.val (.val (.string ⟨#[62]⟩)))],aa 4 71,aX 5 true]⟩]) <|
  .ret) (.seq (al [aa 73 0,aa 74 1,aP 75 1 73 74,au 76 75,((some 77),.op (.arith .eql (.tmp 76) (.val (.val (.int .u8 123))))),aa 72 77]) <|
  .cond (.tmp 72) (.seq (al [aa 78 0,aa 79 1,aI 80 215 [78,79],aa 4 80,aX 5 true]) <|
  .ret) (.skip)))))))) <|
  .seq (al [aa 81 1,aa 4 81,aX 5 false]) <|
  .ret,
  [.tmp 4,.tmp 5],82⟩
theorem td:aY Tryz.prog 177 []=some oz:=by kernel_rfl
def pJ:DF:=⟨.seq (al [aX 6 false]) <|
  .seq (.region [] [⟨none,[aa 7 1,aa 8 2,((some 9),.op (.gW (.tmp 8))),aN 10 .add 7 9,aa 11 0,aJ 12 11,aN 13 .leq 10 12,aa 14 13]⟩,⟨(some (14,true)),[aa 15 0,aa 16 1,aa 17 1,aa 18 2,((some 19),.op (.gW (.tmp 18))),aN 20 .add 17 19,((some 21),.op (.slice 1 (.tmp 15) (some (.tmp 16)) (some (.tmp 20)))),((some 22),.op (.old (.convert 91 9 (.tmp 21)) 9)),aa 23 2,((some 24),.op (.iR .eql (.tmp 22) (.tmp 23)))]⟩,⟨none,[bG 25 14 24,aa 6 25]⟩]) <|
  .ret,
  [.tmp 6],26⟩
theorem ud:aY Tryz.prog 212 []=some pJ:=by kernel_rfl
def uT:DC :=
  .seq (.seq (al [aa 7 1,aa 8 0,aJ 9 8,aN 10 .lss 7 9]) <|
  .cond (.tmp 10) (.skip) (.exit 0)) <|
  .block 1 (.seq (.seq (al [aa 11 0,aa 12 1,aa 13 2,aI 14 212 [11,12,13]]) <|
  .cond (.tmp 14) (.seq (al [aa 15 1,aa 16 2,((some 17),.op (.gW (.tmp 16))),aN 18 .add 15 17,aa 6 18]) <|
  .ret) (.skip)) <|
  al [aa 19 1,aA 20 .add 19 1,aa 1 20])
def oL:DF:=⟨.seq (al [aF 6 0]) <|
  .seq (.block 0 (.loop uT)) <|
  .seq (al [aF 6 (-1)]) <|
  .ret,
  [.tmp 6],21⟩
theorem sU:aY Tryz.prog 213 []=some oL:=by kernel_rfl
def tY:DC :=
  .seq (.seq (.region [] [⟨none,[aa 5 1,aa 6 0,aJ 7 6,aN 8 .lss 5 7,aa 9 8]⟩,⟨(some (9,true)),[aa 10 0,aa 11 1,aP 12 1 10 11,au 13 12,((some 14),.op (.arith .neq (.tmp 13) (.val (.val (.int .u8 10)))))]⟩,⟨none,[bG 15 9 14]⟩]) <|
  .cond (.tmp 15) (.skip) (.exit 0)) <|
  .block 1 (al [aa 16 1,aA 17 .add 16 1,aa 1 17])
def pj:DF:=⟨.seq (al [aF 4 0]) <|
  .seq (.block 0 (.loop tY)) <|
  .seq (al [aa 18 1,aa 4 18]) <|
  .ret,
  [.tmp 4],19⟩
theorem sW:aY Tryz.prog 214 []=some pj:=by kernel_rfl
def sA:DC :=
  .seq (.seq (.region [] [⟨none,[aa 6 1,aA 7 .geq 6 0,aa 8 7]⟩,⟨(some (8,true)),[aa 9 1,aa 10 0,aJ 11 10,aN 12 .lss 9 11]⟩,⟨none,[bG 13 8 12]⟩]) <|
  .cond (.tmp 13) (.skip) (.exit 0)) <|
  .block 1 (.seq (.seq (al [aa 14 0,aa 15 1,aP 16 1 14 15,au 17 16]) <|
  .block 2 (.seq (al [((some 21),.op (.arith .eql (.tmp 17) (.val (.val (.int .u8 123))))),aa 20 21]) <|
  .cond (.tmp 20) (.seq (al [aa 22 5,aA 23 .add 22 1,aa 5 23]) <|
  al [aa 24 1,aA 25 .add 24 1,aa 1 25]) (.seq (al [((some 27),.op (.arith .eql (.tmp 17) (.val (.val (.int .u8 125))))),aa 26 27]) <|
  .cond (.tmp 26) (.seq (al [aa 28 5,aA 29 .sub 28 1,aa 5 29]) <|
  al [aa 30 1,aA 31 .add 30 1,aa 1 31]) (.seq (.seq (al [((some 33),.op (.arith .eql (.tmp 17) (.val (.val (.int .u8 39))))),aa 32 33]) <|
  .cond (.tmp 32) (.skip) (al [((some 34),.op (.arith .eql (.tmp 17) (.val (.val (.int .u8 34))))),aa 32 34])) <|
  .cond (.tmp 32) (al [aa 35 0,aa 36 1,aI 37 232 [35,36],aa 1 37]) (al [aa 18 1,aA 19 .add 18 1,aa 1 19]))))) <|
  .seq (.region [] [⟨none,[aa 38 5,aA 39 .eql 38 0,aa 40 39]⟩,⟨(some (40,true)),[aa 41 1,aA 42 .geq 41 0]⟩,⟨none,[bG 43 40 42]⟩]) <|
  .cond (.tmp 43) (.seq (al [aa 44 1,aa 4 44]) <|
  .ret) (.skip))
def mK:DF:=⟨.seq (al [aF 4 0]) <|
  .seq (al [aF 5 0]) <|
  .seq (.block 0 (.loop sA)) <|
  .seq (al [aF 4 (-1)]) <|
  .ret,
  [.tmp 4],45⟩
theorem rb:aY Tryz.prog 215 []=some mK:=by kernel_rfl
def se:DC :=
  .seq (.seq (al [aa 12 1,aa 13 0,aJ 14 13,aN 15 .lss 12 14]) <|
  .cond (.tmp 15) (.skip) (.exit 0)) <|
  .block 1 (.seq (.seq (al [aa 16 0,aa 17 1,aP 18 1 16 17,au 19 18,aa 20 5,aN 21 .eql 19 20]) <|
  .cond (.tmp 21) (.seq (al [aa 22 1,aA 23 .add 22 1,aa 4 23]) <|
  .ret) (.skip)) <|
  .seq (.seq (al [aa 24 0,aa 25 1,aP 26 1 24 25,au 27 26,((some 28),.op (.arith .eql (.tmp 27) (.val (.val (.int .u8 92)))))]) <|
  .cond (.tmp 28) (al [aa 29 1,aA 30 .add 29 1,aa 1 30]) (.skip)) <|
  al [aa 31 1,aA 32 .add 31 1,aa 1 32])
def mI:DF:=⟨.seq (al [aF 4 0]) <|
  .seq (al [aa 6 0,aa 7 1,aP 8 1 6 7,au 9 8,aa 5 9]) <|
  .seq (al [aa 10 1,aA 11 .add 10 1,aa 1 11]) <|
  .seq (.block 0 (.loop se)) <|
  .seq (al [aF 4 (-1)]) <|
  .ret,
  [.tmp 4],33⟩
theorem ra:aY Tryz.prog 232 []=some mI:=by kernel_rfl
def wh:DC :=
  .seq (.seq (al [aa 16 7,aa 17 1,aN 18 .lss 16 17]) <|
  .cond (.tmp 18) (.skip) (.exit 0)) <|
  .seq (.block 1 (.seq (al [aa 21 6,aA 22 .add 21 1,aa 6 22]) <|
  .seq (al [aa 23 0,aa 24 7,aP 25 1 23 24,au 26 25,((some 27),.op (.arith .eql (.tmp 26) (.val (.val (.int .u8 10)))))]) <|
  .cond (.tmp 27) (al [aa 28 5,aA 29 .add 28 1,aa 5 29,aF 6 1]) (.skip))) <|
  al [aa 19 7,aA 20 .add 19 1,aa 7 20]
def qA:DF:=⟨.seq (al [((some 4),.op (.bm (.val (.val (.complex .f64 0 0)))))]) <|
  .seq (.seq (.region [] [⟨none,[aa 8 1,aA 9 .lss 8 0,aa 10 9]⟩,⟨(some (10,false)),[aa 11 1,aa 12 0,aJ 13 12,aN 14 .gtr 11 13]⟩,⟨none,[bJ 15 10 14]⟩]) <|
  .cond (.tmp 15) (.seq (al [((some 4),.op (.bm (.val (.val (.complex .f64 0 0)))))]) <|
  .ret) (.skip)) <|
  .seq (al [aF 5 1,aF 6 1]) <|
  .seq (.seq (al [aF 7 0]) <|
  .block 0 (.loop wh)) <|
  .seq (al [aa 30 5,aa 31 6,aI 32 216 [30,31],aa 4 32]) <|
  .ret,
  [.tmp 4],33⟩
theorem vQ:aY Tryz.prog 178 []=some qA:=by kernel_rfl
def ql:DF:=⟨.seq (al [((some 4),.op (.bm (.val (.val (.complex .f64 0 0)))))]) <|
  .seq (.seq (.region [] [⟨none,[aa 5 0,aA 6 .lss 5 1,aa 7 6]⟩,⟨(some (7,false)),[aa 8 0,aA 9 .gtr 8 1073741824]⟩,⟨none,[bJ 10 7 9,aa 11 10]⟩,⟨(some (11,false)),[aa 12 1,aA 13 .lss 12 1]⟩,⟨none,[bJ 14 11 13,aa 15 14]⟩,⟨(some (15,false)),[aa 16 1,aA 17 .gtr 16 1073741824]⟩,⟨none,[bJ 18 15 17]⟩]) <|
  .cond (.tmp 18) (.seq (al [((some 4),.op (.bm (.val (.val (.complex .f64 0 0)))))]) <|
  .ret) (.skip)) <|
  .seq (al [aa 19 0,((some 20),.op (.old (.convert 3 275 (.tmp 19)) 275)),aa 21 1,((some 22),.op (.old (.convert 3 275 (.tmp 21)) 275)),((some 23),.op (.old (.call { callee:=.builtin .complex,args:=#[(.tmp 20),(.tmp 22)],argTypes:=#[275,275] }) 88)),aa 4 23]) <|
  .ret,
  [.tmp 4],24⟩
theorem vN:aY Tryz.prog 216 []=some ql:=by kernel_rfl
def vP:DC :=
  .seq (.seq (.region [] [⟨none,[aa 27 9,aa 28 0,aJ 29 28,aN 30 .lss 27 29,aa 31 30]⟩,⟨(some (31,true)),[aa 32 0,aa 33 9,aP 34 1 32 33,au 35 34,aI 36 194 [35]]⟩,⟨none,[bG 37 31 36]⟩]) <|
  .cond (.tmp 37) (.skip) (.exit 1)) <|
  .block 2 (al [aa 38 9,aA 39 .add 38 1,aa 9 39])
def vI:DC :=
  .seq (.seq (al [aa 58 10,aA 59 .leq 58 4]) <|
  .cond (.tmp 59) (.skip) (.exit 3)) <|
  .seq (.block 4 (.seq (.region [] [⟨none,[aa 62 1,aa 63 10,aN 64 .add 62 63,aa 65 0,aJ 66 65,aN 67 .leq 64 66,aa 68 67]⟩,⟨(some (68,true)),[aa 69 0,aa 70 1,aa 71 1,aa 72 10,aN 73 .add 71 72,((some 74),.op (.slice 1 (.tmp 69) (some (.tmp 70)) (some (.tmp 73)))),((some 75),.op (.old (.convert 91 9 (.tmp 74)) 9)),aI 76 192 [75]]⟩,⟨none,[bG 77 68 76]⟩]) <|
  .cond (.tmp 77) (.seq (.region [(6,8)] [⟨none,[aa 78 0,aa 79 1,aa 80 1,aa 81 10,aN 82 .add 80 81,((some 83),.op (.slice 1 (.tmp 78) (some (.tmp 79)) (some (.tmp 82)))),((some 84),.op (.old (.convert 91 9 (.tmp 83)) 9)),av 85 0 7,(none,.op (.store 1 (.tmp 85) (.val (.val (.int .i64 2))))),av 86 1 7,(none,.op (.store 1 (.tmp 86) (.tmp 84)))]⟩]) <|
  .seq (al [aK 87 3 7,aa 88 1,aa 89 10,aN 90 .add 88 89,(none,.op (.store 3 (.tmp 4) (.tmp 87))),aa 5 90,aF 6 0]) <|
  .ret) (.skip))) <|
  al [aa 60 10,aA 61 .add 60 1,aa 10 61]
def vS:DC :=
  .seq (.seq (.region [] [⟨none,[aa 108 9,aa 109 0,aJ 110 109,aN 111 .lss 108 110,aa 112 111]⟩,⟨(some (112,true)),[aa 113 0,aa 114 9,aP 115 1 113 114,au 116 115,((some 117),.op (.arith .geq (.tmp 116) (.val (.val (.int .u8 97)))))]⟩,⟨none,[bG 118 112 117,aa 119 118]⟩,⟨(some (119,true)),[aa 120 0,aa 121 9,aP 122 1 120 121,au 123 122,((some 124),.op (.arith .leq (.tmp 123) (.val (.val (.int .u8 122)))))]⟩,⟨none,[bG 125 119 124]⟩]) <|
  .cond (.tmp 125) (.skip) (.exit 5)) <|
  .block 6 (al [aa 126 9,aA 127 .add 126 1,aa 9 127])
def pH:DF:=⟨.seq (.region [] [⟨none,[((some 4),.op (.alloc [(.val (.int .i64 0)),(.val (.string ⟨#[]⟩)),(.val (.complex .f64 0 0))])),aF 5 0,aF 6 0]⟩]) <|
  .seq (.region [] [⟨none,[aa 11 0,aa 12 1,aI 13 178 [11,12],((some 14),.op (.build [(.val (.int .i64 0)),(.val (.string ⟨#[]⟩)),(.val (.complex .f64 0 0))] [(2,1,(.tmp 13))])),((some 7),.op (.alloc [(.val (.int .i64 0)),(.val (.string ⟨#[]⟩)),(.val (.complex .f64 0 0))])),(none,.op (.store 3 (.tmp 7) (.tmp 14)))]⟩]) <|
  .seq (al [aa 15 0,aa 16 1,aP 17 1 15 16,au 18 17,aa 8 18]) <|
  .seq (al [aa 19 1,aA 20 .add 19 1,aa 9 20]) <|
  .seq (.block 0 (.seq (al [aa 25 8,aI 26 193 [25],aa 24 26]) <|
  .cond (.tmp 24) (.seq (.block 1 (.loop vP)) <|
  .seq (.seq (al [aa 40 9,aa 41 1,aN 42 .sub 40 41,aA 43 .gtr 42 20]) <|
  .cond (.tmp 43) (.seq (al [aK 44 3 7,aa 45 9,(none,.op (.store 3 (.tmp 4) (.tmp 44))),aa 5 45,aF 6 5]) <|
  .ret) (.skip)) <|
  .seq (.region [(4,6)] [⟨none,[aa 46 0,aa 47 1,aa 48 9,((some 49),.op (.slice 1 (.tmp 46) (some (.tmp 47)) (some (.tmp 48)))),((some 50),.op (.old (.convert 91 9 (.tmp 49)) 9)),av 51 0 7,(none,.op (.store 1 (.tmp 51) (.val (.val (.int .i64 1))))),av 52 1 7,(none,.op (.store 1 (.tmp 52) (.tmp 50)))]⟩]) <|
  .seq (al [aK 53 3 7,aa 54 9,(none,.op (.store 3 (.tmp 4) (.tmp 53))),aa 5 54,aF 6 0]) <|
  .ret) (.seq (al [aa 56 8,((some 57),.op (.arith .eql (.tmp 56) (.val (.val (.int .u8 39))))),aa 55 57]) <|
  .cond (.tmp 55) (.seq (.seq (al [aF 10 3]) <|
  .block 3 (.loop vI)) <|
  .seq (.region [(0,5)] [⟨none,[aK 91 3 7,aa 92 9,aa 93 0,aa 94 1,((some 95),.op (.slice 1 (.tmp 93) (some (.tmp 94)) none)),aI 96 217 [95],(none,.op (.store 3 (.tmp 4) (.tmp 91))),aa 5 92,aa 6 96]⟩]) <|
  .ret) (.seq (.region [] [⟨none,[aa 98 0,aa 99 1,c9 100 212 [(.tmp 98),(.tmp 99),(.val (.val (.string ⟨#[37,37]⟩)))],aa 97 100]⟩]) <|
  .cond (.tmp 97) (.seq (al [av 101 0 7,(none,.op (.store 1 (.tmp 101) (.val (.val (.int .i64 9)))))]) <|
  .seq (al [aK 102 3 7,aa 103 1,aA 104 .add 103 2,(none,.op (.store 3 (.tmp 4) (.tmp 102))),aa 5 104,aF 6 0]) <|
  .ret) (.seq (al [aa 106 8,((some 107),.op (.arith .eql (.tmp 106) (.val (.val (.int .u8 37))))),aa 105 107]) <|
  .cond (.tmp 105) (.seq (.block 5 (.loop vS)) <|
  al [aa 128 0,aa 129 1,aA 130 .add 129 1,aa 131 9,((some 132),.op (.slice 1 (.tmp 128) (some (.tmp 130)) (some (.tmp 131)))),((some 133),.op (.old (.convert 91 9 (.tmp 132)) 9)),aI 134 218 [133],av 135 0 7,(none,.op (.store 1 (.tmp 135) (.tmp 134)))]) (al [aa 21 8,aI 22 219 [21],av 23 0 7,(none,.op (.store 1 (.tmp 23) (.tmp 22)))])))))) <|
  .seq (.seq (al [av 136 0 7,au 137 136,aA 138 .eql 137 0]) <|
  .cond (.tmp 138) (.seq (al [aK 139 3 7,aa 140 9,(none,.op (.store 3 (.tmp 4) (.tmp 139))),aa 5 140,aF 6 3]) <|
  .ret) (.skip)) <|
  .seq (al [aK 141 3 7,aa 142 9,(none,.op (.store 3 (.tmp 4) (.tmp 141))),aa 5 142,aF 6 0]) <|
  .ret,
  [.cell 4 (some 3),.tmp 5,.tmp 6],143⟩
theorem uA:aY Tryz.prog 179 []=some pH:=by kernel_rfl
def m9:DF:=⟨.seq (al [aX 2 false]) <|
  .seq (.region [] [⟨none,[aa 3 0,aI 4 193 [3],aa 5 4]⟩,⟨(some (5,false)),[aa 6 0,((some 7),.op (.arith .geq (.tmp 6) (.val (.val (.int .u8 48))))),aa 8 7]⟩,⟨(some (8,true)),[aa 9 0,((some 10),.op (.arith .leq (.tmp 9) (.val (.val (.int .u8 57)))))]⟩,⟨(some (5,false)),[bG 11 8 10]⟩,⟨none,[bJ 12 5 11,aa 13 12]⟩,⟨(some (13,false)),[aa 14 0,((some 15),.op (.arith .eql (.tmp 14) (.val (.val (.int .u8 46)))))]⟩,⟨none,[bJ 16 13 15,aa 2 16]⟩]) <|
  .ret,
  [.tmp 2],17⟩
theorem sD:aY Tryz.prog 194 []=some m9:=by kernel_rfl
def ng:DF:=⟨.seq (al [aX 2 false]) <|
  .seq (.region [] [⟨none,[aa 3 0,((some 4),.op (.arith .geq (.tmp 3) (.val (.val (.int .u8 97))))),aa 5 4]⟩,⟨(some (5,true)),[aa 6 0,((some 7),.op (.arith .leq (.tmp 6) (.val (.val (.int .u8 122)))))]⟩,⟨none,[bG 8 5 7,aa 9 8]⟩,⟨(some (9,false)),[aa 10 0,((some 11),.op (.arith .geq (.tmp 10) (.val (.val (.int .u8 65))))),aa 12 11]⟩,⟨(some (12,true)),[aa 13 0,((some 14),.op (.arith .leq (.tmp 13) (.val (.val (.int .u8 90)))))]⟩,⟨(some (9,false)),[bG 15 12 14]⟩,⟨none,[bJ 16 9 15,aa 17 16]⟩,⟨(some (17,false)),[aa 18 0,((some 19),.op (.arith .eql (.tmp 18) (.val (.val (.int .u8 95)))))]⟩,⟨none,[bJ 20 17 19,aa 2 20]⟩]) <|
  .ret,
  [.tmp 2],21⟩
theorem rZ:aY Tryz.prog 193 []=some ng:=by kernel_rfl
def lG:DF:=⟨.seq (al [aX 2 false]) <|
  .seq (.seq (al [aa 3 0,((some 4),.op (.gW (.tmp 3))),aA 5 .eql 4 3]) <|
  .cond (.tmp 5) (.seq (.region [] [⟨none,[aa 6 0,((some 7),.op (.dp (.tmp 6) (.val (.val (.int .i64 0))))),((some 8),.op (.arith .eql (.tmp 7) (.val (.val (.int .u8 39))))),aa 9 8]⟩,⟨(some (9,true)),[aa 10 0,((some 11),.op (.dp (.tmp 10) (.val (.val (.int .i64 2))))),((some 12),.op (.arith .eql (.tmp 11) (.val (.val (.int .u8 39)))))]⟩,⟨none,[bG 13 9 12,aa 14 13]⟩,⟨(some (14,true)),[aa 15 0,((some 16),.op (.dp (.tmp 15) (.val (.val (.int .i64 1))))),((some 17),.op (.arith .geq (.tmp 16) (.val (.val (.int .u8 32)))))]⟩,⟨none,[bG 18 14 17,aa 19 18]⟩,⟨(some (19,true)),[aa 20 0,((some 21),.op (.dp (.tmp 20) (.val (.val (.int .i64 1))))),((some 22),.op (.arith .leq (.tmp 21) (.val (.val (.int .u8 126)))))]⟩,⟨none,[bG 23 19 22,aa 24 23]⟩,⟨(some (24,true)),[aa 25 0,((some 26),.op (.dp (.tmp 25) (.val (.val (.int .i64 1))))),((some 27),.op (.arith .neq (.tmp 26) (.val (.val (.int .u8 39)))))]⟩,⟨none,[bG 28 24 27,aa 29 28]⟩,⟨(some (29,true)),[aa 30 0,((some 31),.op (.dp (.tmp 30) (.val (.val (.int .i64 1))))),((some 32),.op (.arith .neq (.tmp 31) (.val (.val (.int .u8 92)))))]⟩,⟨none,[bG 33 29 32,aa 2 33]⟩]) <|
  .ret) (.skip)) <|
  .seq (.region [] [⟨none,[aa 34 0,((some 35),.op (.gW (.tmp 34))),aA 36 .eql 35 4,aa 37 36]⟩,⟨(some (37,true)),[aa 38 0,((some 39),.op (.dp (.tmp 38) (.val (.val (.int .i64 0))))),((some 40),.op (.arith .eql (.tmp 39) (.val (.val (.int .u8 39)))))]⟩,⟨none,[bG 41 37 40,aa 42 41]⟩,⟨(some (42,true)),[aa 43 0,((some 44),.op (.dp (.tmp 43) (.val (.val (.int .i64 3))))),((some 45),.op (.arith .eql (.tmp 44) (.val (.val (.int .u8 39)))))]⟩,⟨none,[bG 46 42 45,aa 47 46]⟩,⟨(some (47,true)),[aa 48 0,((some 49),.op (.dp (.tmp 48) (.val (.val (.int .i64 1))))),((some 50),.op (.arith .eql (.tmp 49) (.val (.val (.int .u8 92)))))]⟩,⟨none,[bG 51 47 50,aa 52 51]⟩,⟨(some (52,true)),[aa 53 0,((some 54),.op (.dp (.tmp 53) (.val (.val (.int .i64 2))))),((some 55),.op (.arith .eql (.tmp 54) (.val (.val (.int .u8 110))))),aa 56 55]⟩,⟨(some (56,false)),[aa 57 0,((some 58),.op (.dp (.tmp 57) (.val (.val (.int .i64 2))))),((some 59),.op (.arith .eql (.tmp 58) (.val (.val (.int .u8 116)))))]⟩,⟨(some (52,true)),[bJ 60 56 59,aa 61 60]⟩,⟨(some (61,false)),[aa 62 0,((some 63),.op (.dp (.tmp 62) (.val (.val (.int .i64 2))))),((some 64),.op (.arith .eql (.tmp 63) (.val (.val (.int .u8 92)))))]⟩,⟨(some (52,true)),[bJ 65 61 64,aa 66 65]⟩,⟨(some (66,false)),[aa 67 0,((some 68),.op (.dp (.tmp 67) (.val (.val (.int .i64 2))))),((some 69),.op (.arith .eql (.tmp 68) (.val (.val (.int .u8 39)))))]⟩,⟨(some (52,true)),[bJ 70 66 69]⟩,⟨none,[bG 71 52 70,aa 2 71]⟩]) <|
  .ret,
  [.tmp 2],72⟩
theorem qD:aY Tryz.prog 192 []=some lG:=by kernel_rfl
def rf:DC :=
  .seq (.seq (al [aa 6 4,aa 7 3,aJ 8 7,aN 9 .lss 6 8]) <|
  .cond (.tmp 9) (.skip) (.exit 0)) <|
  .seq (.block 1 (.seq (.region [(5,9)] [⟨none,[aa 12 0,aJ 13 12,aA 14 .lss 13 4,aa 15 14]⟩,⟨(some (15,true)),[aa 16 0,((some 17),.op (.old (.convert 91 9 (.tmp 16)) 9)),aa 18 3,aa 19 4,aP 20 1 18 19,au 21 20,((some 22),.op (.iR .add (.tmp 17) (.tmp 21))),aI 23 192 [22]]⟩,⟨none,[bG 24 15 23]⟩]) <|
  .cond (.tmp 24) (.seq (al [aF 2 4]) <|
  .ret) (.skip))) <|
  al [aa 10 4,aA 11 .add 10 1,aa 4 11]
def lH:DF:=⟨.seq (al [aF 2 0]) <|
  .seq (.region [] [⟨none,[((some 5),.op (.bC 5 1 [(.val (.string ⟨#[]⟩))] [(0,(.val (.val (.string ⟨#[120,39]⟩)))),(1,(.val (.val (.string ⟨#[39]⟩)))),(2,(.val (.val (.string ⟨#[92,110,39]⟩)))),(3,(.val (.val (.string ⟨#[110,39]⟩)))),(4,(.val (.val (.string ⟨#[92,39,39]⟩))))])),aa 3 5]⟩]) <|
  .seq (.seq (al [aF 4 0]) <|
  .block 0 (.loop rf)) <|
  .seq (al [aF 2 3]) <|
  .ret,
  [.tmp 2],25⟩
theorem qP:aY Tryz.prog 217 []=some lH:=by kernel_rfl
def lg:DF:=⟨.seq (al [aF 2 0]) <|
  .seq (.seq (al [aa 3 0]) <|
  .block 0 (.seq (.region [] [⟨none,[((some 5),.op (.iR .eql (.tmp 3) (.val (.val (.string ⟨#[116,111,107,101,110]⟩))))),aa 4 5]⟩]) <|
  .cond (.tmp 4) (.seq (al [aF 2 3]) <|
  .ret) (.seq (.region [] [⟨none,[((some 7),.op (.iR .eql (.tmp 3) (.val (.val (.string ⟨#[108,101,102,116]⟩))))),aa 6 7]⟩]) <|
  .cond (.tmp 6) (.seq (al [aF 2 4]) <|
  .ret) (.seq (.region [] [⟨none,[((some 9),.op (.iR .eql (.tmp 3) (.val (.val (.string ⟨#[114,105,103,104,116]⟩))))),aa 8 9]⟩]) <|
  .cond (.tmp 8) (.seq (al [aF 2 5]) <|
  .ret) (.seq (.region [] [⟨none,[((some 11),.op (.iR .eql (.tmp 3) (.val (.val (.string ⟨#[110,111,110,97,115,115,111,99]⟩))))),aa 10 11]⟩]) <|
  .cond (.tmp 10) (.seq (al [aF 2 6]) <|
  .ret) (.seq (.region [] [⟨none,[((some 13),.op (.iR .eql (.tmp 3) (.val (.val (.string ⟨#[115,116,97,114,116]⟩))))),aa 12 13]⟩]) <|
  .cond (.tmp 12) (.seq (al [aF 2 7]) <|
  .ret) (.seq (.region [] [⟨none,[((some 15),.op (.iR .eql (.tmp 3) (.val (.val (.string ⟨#[112,114,101,99]⟩))))),aa 14 15]⟩]) <|
  .cond (.tmp 14) (.seq (al [aF 2 8]) <|
  .ret) (.skip)))))))) <|
  .seq (al [aF 2 0]) <|
  .ret,
  [.tmp 2],16⟩
theorem qO:aY Tryz.prog 218 []=some lg:=by kernel_rfl
def oF:DF:=⟨.seq (al [aF 2 0]) <|
  .seq (.seq (al [aa 3 0]) <|
  .block 0 (.seq (al [((some 5),.op (.arith .eql (.tmp 3) (.val (.val (.int .u8 58))))),aa 4 5]) <|
  .cond (.tmp 4) (.seq (al [aF 2 10]) <|
  .ret) (.seq (al [((some 7),.op (.arith .eql (.tmp 3) (.val (.val (.int .u8 124))))),aa 6 7]) <|
  .cond (.tmp 6) (.seq (al [aF 2 11]) <|
  .ret) (.seq (al [((some 9),.op (.arith .eql (.tmp 3) (.val (.val (.int .u8 59))))),aa 8 9]) <|
  .cond (.tmp 8) (.seq (al [aF 2 12]) <|
  .ret) (.skip))))) <|
  .seq (al [aF 2 0]) <|
  .ret,
  [.tmp 2],10⟩
theorem tO:aY Tryz.prog 219 []=some oF:=by kernel_rfl
def vW:DC :=
  .seq (.seq (.region [] [⟨none,[aa 21 7,bX 22 21,av 23 3 22,au 24 23,aA 25 .eql 24 0,aa 26 25]⟩,⟨(some (26,true)),[aa 27 7,bX 28 27,av 29 0 28,au 30 29,aJ 31 30,aA 32 .gtr 31 0]⟩,⟨none,[bG 33 26 32,aa 34 33]⟩,⟨(some (34,true)),[aa 35 7,aI 36 183 [35],aA 37 .neq 36 9]⟩,⟨none,[bG 38 34 37]⟩]) <|
  .cond (.tmp 38) (.skip) (.exit 0)) <|
  .block 1 (.region [(1,3)] [⟨none,[av 39 1 8,au 40 39,aa 41 7,aI 42 182 [41],((some 43),.op (.app 5 88 (.tmp 40) (.tmp 42))),av 44 1 8,(none,.op (.store 1 (.tmp 44) (.tmp 43)))]⟩])
def qK:DF:=⟨.seq (al [((some 4),.op (.alloc [(.emp 1),(.emp 1)])),((some 5),.op (.bm (.val (.val (.complex .f64 0 0))))),aF 6 0]) <|
  .seq (al [aa 9 0,aa 10 1,((some 11),.op (.build [(.emp 1),(.val (.complex .f64 0 0)),(.val (.complex .f64 0 0)),(.val (.int .i64 0))] [(0,1,(.tmp 9)),(1,1,(.tmp 10))])),((some 12),.op (.box (.tmp 11))),aa 7 12]) <|
  .seq (al [aa 13 7,aI 14 180 [13],((some 15),.op (.build [(.emp 1),(.emp 1)] [(0,1,(.tmp 14))])),((some 8),.op (.alloc [(.emp 1),(.emp 1)])),(none,.op (.store 2 (.tmp 8) (.tmp 15)))]) <|
  .seq (al [aa 16 7,c9 17 181 [(.tmp 16),(.val (.val (.int .i64 9))),(.val (.val (.int .i64 9)))]]) <|
  .seq (al [aa 18 7,aI 19 182 [18],av 20 1 8,(none,.op (.store 1 (.tmp 20) (.tmp 19)))]) <|
  .seq (.block 0 (.loop vW)) <|
  .seq (.seq (.region [] [⟨none,[aa 45 7,bX 46 45,av 47 3 46,au 48 47,aA 49 .eql 48 0,aa 50 49]⟩,⟨(some (50,true)),[aa 51 7,bX 52 51,av 53 0 52,au 54 53,aJ 55 54,aA 56 .gtr 55 0]⟩,⟨none,[bG 57 50 56]⟩]) <|
  .cond (.tmp 57) (al [aa 58 7,c9 59 181 [(.tmp 58),(.val (.val (.int .i64 9))),(.val (.val (.int .i64 9)))]]) (.skip)) <|
  .seq (.seq (al [aa 60 7,bX 61 60,av 62 0 61,au 63 62,aJ 64 63,aA 65 .gtr 64 0]) <|
  .cond (.tmp 65) (al [aa 66 7,aI 67 184 [66]]) (.skip)) <|
  .seq (.seq (al [aa 68 7,bX 69 68,av 70 3 69,au 71 70,aA 72 .neq 71 0]) <|
  .cond (.tmp 72) (.seq (.region [(4,9),(8,9)] [⟨none,[((some 73),.op (.build [(.emp 1),(.emp 1)] [])),aa 74 7,bX 75 74,av 76 2 75,au 77 76,aa 78 7,bX 79 78,av 80 3 79,au 81 80,(none,.op (.store 2 (.tmp 4) (.tmp 73))),aa 5 77,aa 6 81]⟩]) <|
  .ret) (.skip)) <|
  .seq (al [aK 82 2 8,(none,.op (.store 2 (.tmp 4) (.tmp 82))),((some 5),.op (.bm (.val (.val (.complex .f64 0 0))))),aF 6 0]) <|
  .ret,
  [.cell 4 (some 2),.tmp 5,.tmp 6],83⟩
theorem vH:aY Tryz.prog 135 []=some qK:=by kernel_rfl
def ji:DF:=⟨.seq (al [aF 2 0]) <|
  .seq (.seq (.region [] [⟨none,[aa 3 0,bX 4 3,av 5 3 4,au 6 5,aA 7 .neq 6 0,aa 8 7]⟩,⟨(some (8,false)),[aa 9 0,bX 10 9,av 11 0 10,au 12 11,aJ 13 12,aA 14 .eql 13 0]⟩,⟨none,[bJ 15 8 14]⟩]) <|
  .cond (.tmp 15) (.seq (al [aF 2 0]) <|
  .ret) (.skip)) <|
  .seq (al [aa 16 0,bX 17 16,av 18 0 17,au 19 18,((some 20),.op (.idx 3 (.tmp 19) (.val (.val (.int .i64 0))))),av 21 0 20,au 22 21,aa 2 22]) <|
  .ret,
  [.tmp 2],23⟩
theorem nP:aY Tryz.prog 183 []=some ji:=by kernel_rfl
def nB:DC :=
  .seq (.seq (al [aa 10 0,bX 11 10,av 12 3 11,au 13 12,aA 14 .eql 13 0]) <|
  .cond (.tmp 14) (.skip) (.exit 0)) <|
  .block 1 (.seq (.region [(0,2),(2,4)] [⟨none,[aK 15 2 4,aa 16 0,aI 17 220 [16],((some 18),.op (.build [(.val (.string ⟨#[]⟩)),(.val (.complex .f64 0 0)),(.emp 1),(.val (.string ⟨#[]⟩)),(.val (.complex .f64 0 0))] [(0,2,(.tmp 15)),(2,1,(.tmp 17))])),((some 5),.op (.alloc [(.val (.string ⟨#[]⟩)),(.val (.complex .f64 0 0)),(.emp 1),(.val (.string ⟨#[]⟩)),(.val (.complex .f64 0 0))])),(none,.op (.store 5 (.tmp 5) (.tmp 18)))]⟩]) <|
  .seq (.seq (al [aa 19 0,c9 20 221 [(.tmp 19),(.val (.val (.int .i64 8))),(.val (.val (.int .i64 8)))]]) <|
  .cond (.tmp 20) (.seq (al [aa 21 0,c9 22 181 [(.tmp 21),(.val (.val (.int .i64 8))),(.val (.val (.int .i64 8)))]]) <|
  al [aa 23 0,c9 24 181 [(.tmp 23),(.val (.val (.int .i64 1))),(.val (.val (.int .i64 2)))],av 25 3 5,(none,.op (.store 2 (.tmp 25) (.tmp 24)))]) (.skip)) <|
  .seq (.region [] [⟨none,[aa 26 3,aK 27 5 5,((some 28),.op (.bC 1 5 [(.val (.string ⟨#[]⟩)),(.val (.complex .f64 0 0)),(.emp 1),(.val (.string ⟨#[]⟩)),(.val (.complex .f64 0 0))] [(0,(.tmp 27))])),((some 29),.op (.app 5 88 (.tmp 26) (.tmp 28))),aa 3 29]⟩]) <|
  .seq (.seq (al [aa 30 0,c9 31 221 [(.tmp 30),(.val (.val (.int .i64 11))),(.val (.val (.int .i64 11)))],b6 32 31]) <|
  .cond (.tmp 32) (.seq (al [aa 33 0,c9 34 181 [(.tmp 33),(.val (.val (.int .i64 12))),(.val (.val (.int .i64 12)))]]) <|
  .seq (al [aa 35 3,aa 2 35]) <|
  .ret) (.skip)) <|
  al [aa 36 0,c9 37 181 [(.tmp 36),(.val (.val (.int .i64 11))),(.val (.val (.int .i64 11)))]])
def iQ:DF:=⟨.seq (al [((some 2),.op (.bm (.val (.emp 1))))]) <|
  .seq (al [((some 3),.op (.bm (.val (.emp 1))))]) <|
  .seq (.region [] [⟨none,[aa 6 0,c9 7 181 [(.tmp 6),(.val (.val (.int .i64 1))),(.val (.val (.int .i64 1)))],((some 4),.op (.alloc [(.val (.string ⟨#[]⟩)),(.val (.complex .f64 0 0))])),(none,.op (.store 2 (.tmp 4) (.tmp 7)))]⟩]) <|
  .seq (al [aa 8 0,c9 9 181 [(.tmp 8),(.val (.val (.int .i64 10))),(.val (.val (.int .i64 10)))]]) <|
  .seq (.block 0 (.loop nB)) <|
  .seq (al [aa 38 3,aa 2 38]) <|
  .ret,
  [.tmp 2],39⟩
theorem mP:aY Tryz.prog 182 []=some iQ:=by kernel_rfl
def ou:DC :=
  .seq (.seq (al [aa 4 0,c9 5 221 [(.tmp 4),(.val (.val (.int .i64 1))),(.val (.val (.int .i64 2)))]]) <|
  .cond (.tmp 5) (.skip) (.exit 0)) <|
  .block 1 (.region [] [⟨none,[aa 6 3,aa 7 0,c9 8 181 [(.tmp 7),(.val (.val (.int .i64 1))),(.val (.val (.int .i64 2)))],((some 9),.op (.bC 1 2 [(.val (.string ⟨#[]⟩)),(.val (.complex .f64 0 0))] [(0,(.tmp 8))])),((some 10),.op (.app 2 32 (.tmp 6) (.tmp 9))),aa 3 10]⟩])
def jb:DF:=⟨.seq (al [((some 2),.op (.bm (.val (.emp 1))))]) <|
  .seq (al [((some 3),.op (.bm (.val (.emp 1))))]) <|
  .seq (.block 0 (.loop ou)) <|
  .seq (al [aa 11 3,aa 2 11]) <|
  .ret,
  [.tmp 2],12⟩
theorem nO:aY Tryz.prog 220 []=some jb:=by kernel_rfl
def ke:DF:=⟨.seq (al [aX 6 false]) <|
  .seq (.region [] [⟨none,[aa 7 0,bX 8 7,av 9 0 8,au 10 9,aJ 11 10,aA 12 .gtr 11 0,aa 13 12]⟩,⟨(some (13,true)),[aa 14 0,aI 15 183 [14],aa 16 1,aN 17 .eql 15 16,aa 18 17]⟩,⟨(some (18,false)),[aa 19 0,aI 20 183 [19],aa 21 2,aN 22 .eql 20 21]⟩,⟨(some (13,true)),[bJ 23 18 22]⟩,⟨none,[bG 24 13 23,aa 6 24]⟩]) <|
  .ret,
  [.tmp 6],25⟩
theorem px:aY Tryz.prog 221 []=some ke:=by kernel_rfl
def jl:DF:=⟨.seq (.region [] [⟨none,[((some 6),.op (.alloc [(.val (.string ⟨#[]⟩)),(.val (.complex .f64 0 0))]))]⟩]) <|
  .seq (.seq (.region [] [⟨none,[aa 8 0,bX 9 8,av 10 3 9,au 11 10,aA 12 .neq 11 0,aa 13 12]⟩,⟨(some (13,false)),[aa 14 0,aa 15 1,aa 16 2,aI 17 221 [14,15,16],b6 18 17]⟩,⟨none,[bJ 19 13 18]⟩]) <|
  .cond (.tmp 19) (.seq (al [aa 20 0,aI 21 184 [20]]) <|
  .seq (.region [] [⟨none,[((some 22),.op (.build [(.val (.string ⟨#[]⟩)),(.val (.complex .f64 0 0))] [])),(none,.op (.store 2 (.tmp 6) (.tmp 22)))]⟩]) <|
  .ret) (.skip)) <|
  .seq (.region [] [⟨none,[aa 23 0,bX 24 23,av 25 0 24,au 26 25,((some 27),.op (.idx 3 (.tmp 26) (.val (.val (.int .i64 0))))),aK 28 3 27,((some 7),.op (.alloc [(.val (.int .i64 0)),(.val (.string ⟨#[]⟩)),(.val (.complex .f64 0 0))])),(none,.op (.store 3 (.tmp 7) (.tmp 28)))]⟩]) <|
  .seq (al [aa 29 0,aa 30 0,bX 31 30,av 32 0 31,au 33 32,((some 34),.op (.slice 3 (.tmp 33) (some (.val (.val (.int .i64 1)))) none)),bX 35 29,av 36 0 35,(none,.op (.store 1 (.tmp 36) (.tmp 34)))]) <|
  .seq (.region [] [⟨none,[av 37 1 7,au 38 37,av 39 2 7,au 40 39,((some 41),.op (.build [(.val (.string ⟨#[]⟩)),(.val (.complex .f64 0 0))] [(0,1,(.tmp 38)),(1,1,(.tmp 40))])),(none,.op (.store 2 (.tmp 6) (.tmp 41)))]⟩]) <|
  .ret,
  [.cell 6 (some 2)],42⟩
theorem nL:aY Tryz.prog 181 []=some jl:=by kernel_rfl
def jc:DF:=⟨.seq (.seq (al [aa 2 0,bX 3 2,av 4 3 3,au 5 4,aA 6 .neq 5 0]) <|
  .cond (.tmp 6) (.ret) (.skip)) <|
  .seq (al [aa 7 0,aa 8 0,aa 9 0,bX 10 9,av 11 1 10,au 12 11,bX 13 7,av 14 2 13,(none,.op (.store 1 (.tmp 14) (.tmp 12))),bX 15 8,av 16 3 15,(none,.op (.store 1 (.tmp 16) (.val (.val (.int .i64 4)))))]) <|
  .seq (al [aa 17 0,bX 18 17,av 19 0 18,au 20 19,aJ 21 20,aA 22 .gtr 21 0]) <|
  .cond (.tmp 22) (al [aa 23 0,aa 24 0,aa 25 0,bX 26 25,av 27 0 26,au 28 27,((some 29),.op (.idx 3 (.tmp 28) (.val (.val (.int .i64 0))))),av 30 2 29,au 31 30,bX 32 23,av 33 2 32,(none,.op (.store 1 (.tmp 33) (.tmp 31))),bX 34 24,av 35 3 34,(none,.op (.store 1 (.tmp 35) (.val (.val (.int .i64 3)))))]) (.skip),
  [],36⟩
theorem nt:aY Tryz.prog 184 []=some jc:=by kernel_rfl
def nN:DC :=
  .seq (.seq (.region [] [⟨none,[aa 6 0,bX 7 6,av 8 3 7,au 9 8,aA 10 .eql 9 0,aa 11 10]⟩,⟨(some (11,true)),[aa 12 0,bX 13 12,av 14 0 13,au 15 14,aJ 16 15,aA 17 .gtr 16 0]⟩,⟨none,[bG 18 11 17,aa 19 18]⟩,⟨(some (19,true)),[aa 20 0,aI 21 183 [20],aA 22 .neq 21 9]⟩,⟨none,[bG 23 19 22]⟩]) <|
  .cond (.tmp 23) (.skip) (.exit 0)) <|
  .block 1 (.seq (al [aa 24 0,aI 25 183 [24],aa 4 25]) <|
  .seq (.seq (al [aa 26 4,aA 27 .eql 26 7]) <|
  .cond (.tmp 27) (.seq (al [aa 28 0,aa 29 4,aa 30 4,aI 31 181 [28,29,30]]) <|
  .seq (.region [] [⟨none,[aa 32 3,aa 33 4,aa 34 0,c9 35 181 [(.tmp 34),(.val (.val (.int .i64 1))),(.val (.val (.int .i64 1)))],((some 36),.op (.bC 1 2 [(.val (.string ⟨#[]⟩)),(.val (.complex .f64 0 0))] [(0,(.tmp 35))])),((some 37),.op (.build [(.val (.int .i64 0)),(.emp 1)] [(0,1,(.tmp 33)),(1,1,(.tmp 36))])),((some 38),.op (.bC 1 2 [(.val (.int .i64 0)),(.emp 1)] [(0,(.tmp 37))])),((some 39),.op (.app 2 32 (.tmp 32) (.tmp 38))),aa 3 39]⟩]) <|
  .exit 1) (.skip)) <|
  .seq (.seq (.region [] [⟨none,[aa 40 4,aA 41 .neq 40 3,aa 42 41]⟩,⟨(some (42,true)),[aa 43 4,aA 44 .neq 43 4]⟩,⟨none,[bG 45 42 44,aa 46 45]⟩,⟨(some (46,true)),[aa 47 4,aA 48 .neq 47 5]⟩,⟨none,[bG 49 46 48,aa 50 49]⟩,⟨(some (50,true)),[aa 51 4,aA 52 .neq 51 6]⟩,⟨none,[bG 53 50 52]⟩]) <|
  .cond (.tmp 53) (.seq (al [aa 54 0,aI 55 184 [54]]) <|
  .exit 1) (.skip)) <|
  .seq (al [aa 56 0,aa 57 4,aa 58 4,aI 59 181 [56,57,58]]) <|
  .seq (.region [] [⟨none,[aa 60 0,c9 61 181 [(.tmp 60),(.val (.val (.int .i64 1))),(.val (.val (.int .i64 2)))],((some 5),.op (.alloc [(.val (.string ⟨#[]⟩)),(.val (.complex .f64 0 0))])),(none,.op (.store 2 (.tmp 5) (.tmp 61)))]⟩]) <|
  .region [(2,5),(3,5)] [⟨none,[aa 62 3,aa 63 4,aK 64 2 5,((some 65),.op (.bC 1 2 [(.val (.string ⟨#[]⟩)),(.val (.complex .f64 0 0))] [(0,(.tmp 64))])),aa 66 0,aI 67 220 [66],((some 68),.op (.app 2 32 (.tmp 65) (.tmp 67))),((some 69),.op (.build [(.val (.int .i64 0)),(.emp 1)] [(0,1,(.tmp 63)),(1,1,(.tmp 68))])),((some 70),.op (.bC 1 2 [(.val (.int .i64 0)),(.emp 1)] [(0,(.tmp 69))])),((some 71),.op (.app 2 32 (.tmp 62) (.tmp 70))),aa 3 71]⟩])
def iM:DF:=⟨.seq (al [((some 2),.op (.bm (.val (.emp 1))))]) <|
  .seq (al [((some 3),.op (.bm (.val (.emp 1))))]) <|
  .seq (.block 0 (.loop nN)) <|
  .seq (al [aa 72 3,aa 2 72]) <|
  .ret,
  [.tmp 2],73⟩
theorem mQ:aY Tryz.prog 180 []=some iM:=by kernel_rfl
def sN:DC :=
  .seq (.seq (.region [] [⟨none,[aa 17 6,av 18 1 1,au 19 18,aJ 20 19,aN 21 .lss 17 20,aa 22 21]⟩,⟨(some (22,true)),[aa 23 5,bX 24 23,av 25 10 24,au 26 25,aA 27 .eql 26 0]⟩,⟨none,[bG 28 22 27]⟩]) <|
  .cond (.tmp 28) (.skip) (.exit 0)) <|
  .seq (.block 1 (al [aa 31 5,av 32 1 1,au 33 32,aa 34 6,aP 35 5 33 34,aK 36 5 35,aI 37 138 [31,36]])) <|
  al [aa 29 6,aA 30 .add 29 1,aa 6 30]
def na:DF:=⟨.seq (al [bZ 1 0,((some 2),.op (.alloc [(.emp 1),(.emp 1),(.emp 1),(.val (.int .i64 0))])),((some 3),.op (.bm (.val (.val (.complex .f64 0 0))))),aF 4 0]) <|
  .seq (.region [] [⟨none,[((some 7),.op (.build [(.emp 1),(.emp 1),(.emp 1),(.val (.int .i64 0)),(.emp 1),(.val (.string ⟨#[]⟩)),(.val (.complex .f64 0 0)),(.val (.bool false)),(.val (.int .i64 0)),(.val (.complex .f64 0 0)),(.val (.int .i64 0))] [])),((some 8),.op (.box (.tmp 7))),aa 5 8]⟩]) <|
  .seq (al [aa 9 5,av 10 0 1,au 11 10,aI 12 136 [9,11]]) <|
  .seq (al [aa 13 5,av 14 1 1,au 15 14,aI 16 137 [13,15]]) <|
  .seq (.seq (al [aF 6 0]) <|
  .block 0 (.loop sN)) <|
  .seq (.seq (.region [] [⟨none,[aa 38 5,bX 39 38,av 40 7 39,au 41 40,aa 42 41]⟩,⟨(some (42,true)),[aa 43 5,bX 44 43,av 45 0 44,aK 46 4 45,aa 47 5,bX 48 47,av 49 5 48,av 50 0 49,au 51 50,aI 52 139 [46,51],aA 53 .lss 52 0]⟩,⟨none,[bG 54 42 53]⟩]) <|
  .cond (.tmp 54) (al [aa 55 5,aa 56 5,bX 57 56,av 58 5 57,aK 59 2 58,c9 60 140 [(.tmp 55),(.tmp 59),(.val (.val (.int .i64 8)))]]) (.skip)) <|
  .seq (.seq (al [av 61 1 1,au 62 61,aJ 63 62,aA 64 .eql 63 0]) <|
  .cond (.tmp 64) (.region [] [⟨none,[aa 65 5,((some 66),.op (.build [(.val (.string ⟨#[]⟩)),(.val (.complex .f64 0 0))] [])),c9 67 140 [(.tmp 65),(.tmp 66),(.val (.val (.int .i64 8)))]]⟩]) (.skip)) <|
  .seq (.seq (al [aa 68 5,bX 69 68,av 70 10 69,au 71 70,aA 72 .neq 71 0]) <|
  .cond (.tmp 72) (.seq (.region [(4,9),(8,9)] [⟨none,[((some 73),.op (.build [(.emp 1),(.emp 1),(.emp 1),(.val (.int .i64 0))] [])),aa 74 5,bX 75 74,av 76 9 75,au 77 76,aa 78 5,bX 79 78,av 80 10 79,au 81 80,(none,.op (.store 4 (.tmp 2) (.tmp 73))),aa 3 77,aa 4 81]⟩]) <|
  .ret) (.skip)) <|
  .seq (.seq (al [aa 82 5,bX 83 82,av 84 7 83,au 85 84]) <|
  .cond (.tmp 85) (al [aa 86 5,aa 87 5,bX 88 87,av 89 0 88,aK 90 4 89,aa 91 5,bX 92 91,av 93 5 92,av 94 0 93,au 95 94,aI 96 139 [90,95],bX 97 86,av 98 0 97,av 99 3 98,(none,.op (.store 1 (.tmp 99) (.tmp 96)))]) (.skip)) <|
  .seq (al [aa 100 5,bX 101 100,av 102 0 101,aK 103 4 102,(none,.op (.store 4 (.tmp 2) (.tmp 103))),((some 3),.op (.bm (.val (.val (.complex .f64 0 0))))),aF 4 0]) <|
  .ret,
  [.cell 2 (some 4),.tmp 3,.tmp 4],104⟩
theorem sy:aY Tryz.prog 95 [1]=some na:=by kernel_rfl
def pR:DC :=
  .seq (.seq (.region [] [⟨none,[aa 28 5,av 29 2 3,au 30 29,aJ 31 30,aN 32 .lss 28 31,aa 33 32]⟩,⟨(some (33,true)),[aa 34 0,bX 35 34,av 36 10 35,au 37 36,aA 38 .eql 37 0]⟩,⟨none,[bG 39 33 38]⟩]) <|
  .cond (.tmp 39) (.skip) (.exit 0)) <|
  .seq (.block 1 (.seq (.region [] [⟨none,[av 42 2 3,au 43 42,aa 44 5,aP 45 2 43 44,aK 46 2 45,((some 6),.op (.alloc [(.val (.string ⟨#[]⟩)),(.val (.complex .f64 0 0))])),(none,.op (.store 2 (.tmp 6) (.tmp 46)))]⟩]) <|
  .seq (.seq (al [av 47 0 6,au 48 47,aI 49 151 [48],b6 50 49]) <|
  .cond (.tmp 50) (.seq (al [aa 51 0,aK 52 2 6,c9 53 140 [(.tmp 51),(.tmp 52),(.val (.val (.int .i64 3)))]]) <|
  .ret) (.skip)) <|
  .seq (.seq (al [aa 54 5,aA 55 .eql 54 6]) <|
  .cond (.tmp 55) (.seq (al [aa 56 0,aK 57 2 6,c9 58 140 [(.tmp 56),(.tmp 57),(.val (.val (.int .i64 5)))]]) <|
  .ret) (.skip)) <|
  .seq (al [aa 59 0,aK 60 2 6,c9 61 186 [(.tmp 59),(.tmp 60),(.val (.val (.bool true)))],aa 7 61]) <|
  .seq (al [av 62 1 4,au 63 62,aa 64 7,((some 65),.op (.bC 1 1 [(.val (.int .i64 0))] [(0,(.tmp 64))])),((some 66),.op (.app 1 8 (.tmp 63) (.tmp 65))),av 67 1 4,(none,.op (.store 1 (.tmp 67) (.tmp 66)))]) <|
  .seq (al [aa 68 7,aA 69 .geq 68 0]) <|
  .cond (.tmp 69) (al [aa 70 7,av 71 2 4,(none,.op (.store 1 (.tmp 71) (.tmp 70)))]) (.skip))) <|
  al [aa 40 5,aA 41 .add 40 1,aa 5 41]
def kf:DF:=⟨.seq (al [bZ 3 1]) <|
  .seq (.region [(7,9)] [⟨none,[aa 8 0,bX 9 8,av 10 0 9,aK 11 4 10,av 12 0 3,av 13 0 12,au 14 13,aI 15 139 [11,14],((some 16),.op (.build [(.val (.int .i64 0)),(.emp 1),(.val (.int .i64 0))] [(0,1,(.tmp 15)),(2,1,(.val (.val (.int .i64 (-1)))))])),((some 4),.op (.alloc [(.val (.int .i64 0)),(.emp 1),(.val (.int .i64 0))])),(none,.op (.store 3 (.tmp 4) (.tmp 16)))]⟩]) <|
  .seq (.seq (al [aa 17 0,bX 18 17,av 19 0 18,av 20 2 19,au 21 20,aJ 22 21,aA 23 .eql 22 40]) <|
  .cond (.tmp 23) (al [aa 24 0,av 25 0 3,aK 26 2 25,c9 27 140 [(.tmp 24),(.tmp 26),(.val (.val (.int .i64 5)))]]) (.skip)) <|
  .seq (.seq (al [aF 5 0]) <|
  .block 0 (.loop pR)) <|
  .seq (.seq (.region [] [⟨none,[av 72 3 3,av 73 0 72,au 74 73,((some 75),.op (.iR .neq (.tmp 74) (.val (.val (.string ⟨#[]⟩))))),aa 76 75]⟩,⟨(some (76,true)),[aa 77 0,bX 78 77,av 79 10 78,au 80 79,aA 81 .eql 80 0]⟩,⟨none,[bG 82 76 81]⟩]) <|
  .cond (.tmp 82) (.seq (.seq (al [av 83 3 3,av 84 0 83,au 85 84,aI 86 151 [85],b6 87 86]) <|
  .cond (.tmp 87) (.seq (al [aa 88 0,av 89 3 3,aK 90 2 89,c9 91 140 [(.tmp 88),(.tmp 90),(.val (.val (.int .i64 3)))]]) <|
  .ret) (.skip)) <|
  al [aa 92 0,av 93 3 3,aK 94 2 93,c9 95 186 [(.tmp 92),(.tmp 94),(.val (.val (.bool false)))],av 96 2 4,(none,.op (.store 1 (.tmp 96) (.tmp 95)))]) (.skip)) <|
  al [aa 97 0,aa 98 0,bX 99 98,av 100 0 99,av 101 2 100,au 102 101,aK 103 3 4,((some 104),.op (.bC 1 3 [(.val (.int .i64 0)),(.emp 1),(.val (.int .i64 0))] [(0,(.tmp 103))])),((some 105),.op (.app 3 40 (.tmp 102) (.tmp 104))),bX 106 97,av 107 0 106,av 108 2 107,(none,.op (.store 1 (.tmp 108) (.tmp 105)))],
  [],109⟩
theorem pr:aY Tryz.prog 138 [3]=some kf:=by kernel_rfl
def mZ:DF:=⟨.seq (al [aX 2 false]) <|
  .seq (.region [] [⟨none,[aa 3 0,aI 4 154 [3],aa 5 4]⟩,⟨(some (5,false)),[aa 6 0,aI 7 192 [6]]⟩,⟨none,[bJ 8 5 7,aa 2 8]⟩]) <|
  .ret,
  [.tmp 2],9⟩
theorem sG:aY Tryz.prog 151 []=some mZ:=by kernel_rfl
def uM:DC :=
  .seq (.seq (al [aa 18 3,aa 19 0,((some 20),.op (.gW (.tmp 19))),aN 21 .lss 18 20]) <|
  .cond (.tmp 21) (.skip) (.exit 0)) <|
  .seq (.block 1 (.seq (al [aa 24 0,aa 25 3,((some 26),.op (.dp (.tmp 24) (.tmp 25))),aI 27 194 [26],b6 28 27]) <|
  .cond (.tmp 28) (.seq (al [aX 2 false]) <|
  .ret) (.skip))) <|
  al [aa 22 3,aA 23 .add 22 1,aa 3 23]
def oP:DF:=⟨.seq (al [aX 2 false]) <|
  .seq (.seq (.region [] [⟨none,[aa 4 0,((some 5),.op (.gW (.tmp 4))),aA 6 .eql 5 0,aa 7 6]⟩,⟨(some (7,false)),[aa 8 0,((some 9),.op (.gW (.tmp 8))),aA 10 .gtr 9 20]⟩,⟨none,[bJ 11 7 10,aa 12 11]⟩,⟨(some (12,false)),[aa 13 0,((some 14),.op (.dp (.tmp 13) (.val (.val (.int .i64 0))))),aI 15 193 [14],b6 16 15]⟩,⟨none,[bJ 17 12 16]⟩]) <|
  .cond (.tmp 17) (.seq (al [aX 2 false]) <|
  .ret) (.skip)) <|
  .seq (.seq (al [aF 3 0]) <|
  .block 0 (.loop uM)) <|
  .seq (al [aX 2 true]) <|
  .ret,
  [.tmp 2],29⟩
theorem tI:aY Tryz.prog 154 []=some oP:=by kernel_rfl
def kh:DF:=⟨.seq (al [bZ 4 1]) <|
  .seq (al [aa 6 0,bX 7 6,av 8 10 7,au 9 8,aA 10 .eql 9 0]) <|
  .cond (.tmp 10) (al [aa 11 0,aa 12 0,av 13 1 4,au 14 13,aa 15 2,bX 16 11,av 17 9 16,(none,.op (.store 1 (.tmp 17) (.tmp 14))),bX 18 12,av 19 10 18,(none,.op (.store 1 (.tmp 19) (.tmp 15)))]) (.skip),
  [],20⟩
theorem pv:aY Tryz.prog 140 [4]=some kh:=by kernel_rfl
def ja:DF:=⟨.seq (al [bZ 4 1,aF 6 0]) <|
  .seq (al [aa 8 0,bX 9 8,av 10 0 9,aK 11 4 10,av 12 0 4,au 13 12,aI 14 139 [11,13],aa 7 14]) <|
  .seq (.block 0 (.seq (.region [] [⟨none,[aa 19 7,aA 20 .geq 19 0,aa 21 20]⟩,⟨(some (21,true)),[aa 22 2]⟩,⟨none,[bG 23 21 22,aa 18 23]⟩]) <|
  .cond (.tmp 18) (.seq (al [aa 24 7,((some 25),.op (.arith .sub (.val (.val (.int .i64 (-1)))) (.tmp 24))),aa 6 25]) <|
  .ret) (.seq (al [aa 27 7,aA 28 .geq 27 0,aa 26 28]) <|
  .cond (.tmp 26) (al [aa 29 0,aK 30 2 4,c9 31 140 [(.tmp 29),(.tmp 30),(.val (.val (.int .i64 6)))]]) (.seq (.region [] [⟨none,[aa 33 0,bX 34 33,av 35 0 34,aK 36 4 35,av 37 0 4,au 38 37,aI 39 152 [36,38],aA 40 .geq 39 0,aa 41 40]⟩,⟨(some (41,false)),[av 42 0 4,au 43 42,aI 44 192 [43]]⟩,⟨none,[bJ 45 41 44,aa 46 45]⟩,⟨(some (46,false)),[av 47 0 4,au 48 47,((some 49),.op (.iR .eql (.tmp 48) (.val (.val (.string ⟨#[101,114,114,111,114]⟩)))))]⟩,⟨none,[bJ 50 46 49,aa 32 50]⟩]) <|
  .cond (.tmp 32) (.seq (al [aa 51 0,aK 52 2 4,aI 53 223 [51,52],aa 6 53]) <|
  .ret) (al [aa 15 0,aK 16 2 4,c9 17 140 [(.tmp 15),(.tmp 16),(.val (.val (.int .i64 6)))]]))))) <|
  .seq (al [aF 6 0]) <|
  .ret,
  [.tmp 6],54⟩
theorem nF:aY Tryz.prog 186 [4]=some ja:=by kernel_rfl
def vJ:DC :=
  .seq (.seq (al [aa 6 5,av 7 1 2,au 8 7,aJ 9 8,aN 10 .lss 6 9]) <|
  .cond (.tmp 10) (.skip) (.exit 0)) <|
  .seq (.block 1 (.seq (al [av 13 1 2,au 14 13,aa 15 5,aP 16 1 14 15,au 17 16,aa 18 1,((some 19),.op (.iR .eql (.tmp 17) (.tmp 18)))]) <|
  .cond (.tmp 19) (.seq (al [aa 20 5,aa 4 20]) <|
  .ret) (.skip))) <|
  al [aa 11 5,aA 12 .add 11 1,aa 5 12]
def pE:DF:=⟨.seq (al [bZ 2 0,aF 4 0]) <|
  .seq (.seq (al [aF 5 0]) <|
  .block 0 (.loop vJ)) <|
  .seq (al [aF 4 (-1)]) <|
  .ret,
  [.tmp 4],21⟩
theorem u5:aY Tryz.prog 139 [2]=some pE:=by kernel_rfl
def vi:DC :=
  .seq (.seq (al [aa 6 5,av 7 0 2,au 8 7,aJ 9 8,aN 10 .lss 6 9]) <|
  .cond (.tmp 10) (.skip) (.exit 0)) <|
  .seq (.block 1 (.seq (al [av 13 0 2,au 14 13,aa 15 5,aP 16 3 14 15,av 17 0 16,au 18 17,aa 19 1,((some 20),.op (.iR .eql (.tmp 18) (.tmp 19)))]) <|
  .cond (.tmp 20) (.seq (al [aa 21 5,aa 4 21]) <|
  .ret) (.skip))) <|
  al [aa 11 5,aA 12 .add 11 1,aa 5 12]
def oO:DF:=⟨.seq (al [bZ 2 0,aF 4 0]) <|
  .seq (.seq (al [aF 5 0]) <|
  .block 0 (.loop vi)) <|
  .seq (al [aF 4 (-1)]) <|
  .ret,
  [.tmp 4],22⟩
theorem ta:aY Tryz.prog 152 [2]=some oO:=by kernel_rfl
def iy:DF:=⟨.seq (al [bZ 3 1,aF 4 0]) <|
  .seq (al [aa 6 0,bX 7 6,av 8 0 7,aK 9 4 8,av 10 0 3,au 11 10,aI 12 152 [9,11],aa 5 12]) <|
  .seq (.seq (al [aa 13 5,aA 14 .geq 13 0]) <|
  .cond (.tmp 14) (.seq (al [aa 15 5,aa 4 15]) <|
  .ret) (.skip)) <|
  .seq (.seq (al [aa 16 0,bX 17 16,av 18 0 17,av 19 0 18,au 20 19,aJ 21 20,aA 22 .eql 21 24]) <|
  .cond (.tmp 22) (.seq (al [aa 23 0,aK 24 2 3,c9 25 140 [(.tmp 23),(.tmp 24),(.val (.val (.int .i64 5)))]]) <|
  .seq (al [aF 4 0]) <|
  .ret) (.skip)) <|
  .seq (.region [] [⟨none,[aa 26 0,aa 27 0,bX 28 27,av 29 0 28,av 30 0 29,au 31 30,av 32 0 3,au 33 32,((some 34),.op (.build [(.val (.string ⟨#[]⟩)),(.val (.int .i64 0)),(.val (.int .i64 0))] [(0,1,(.tmp 33))])),((some 35),.op (.bC 1 3 [(.val (.string ⟨#[]⟩)),(.val (.int .i64 0)),(.val (.int .i64 0))] [(0,(.tmp 34))])),((some 36),.op (.app 3 32 (.tmp 31) (.tmp 35))),bX 37 26,av 38 0 37,av 39 0 38,(none,.op (.store 1 (.tmp 39) (.tmp 36)))]⟩]) <|
  .seq (al [aa 40 0,bX 41 40,av 42 0 41,av 43 0 42,au 44 43,aJ 45 44,aA 46 .sub 45 1,aa 4 46]) <|
  .ret,
  [.tmp 4],47⟩
theorem lX:aY Tryz.prog 223 [3]=some iy:=by kernel_rfl
def po:DC :=
  .seq (.seq (.region [] [⟨none,[aa 60 7,av 61 1 5,au 62 61,aJ 63 62,aN 64 .lss 60 63,aa 65 64]⟩,⟨(some (65,true)),[aa 66 0,bX 67 66,av 68 10 67,au 69 68,aA 70 .eql 69 0]⟩,⟨none,[bG 71 65 70]⟩]) <|
  .cond (.tmp 71) (.skip) (.exit 2)) <|
  .seq (.block 3 (al [aa 74 0,av 75 0 5,au 76 75,av 77 1 5,au 78 77,aa 79 7,aP 80 2 78 79,aK 81 2 80,aI 82 185 [74,76,81]])) <|
  al [aa 72 7,aA 73 .add 72 1,aa 7 73]
def pz:DC :=
  .seq (.seq (.region [] [⟨none,[aa 8 4,aa 9 1,aJ 10 9,aN 11 .lss 8 10,aa 12 11]⟩,⟨(some (12,true)),[aa 13 0,bX 14 13,av 15 10 14,au 16 15,aA 17 .eql 16 0]⟩,⟨none,[bG 18 12 17]⟩]) <|
  .cond (.tmp 18) (.skip) (.exit 0)) <|
  .seq (.block 1 (.seq (al [aa 21 1,aa 22 4,aP 23 2 21 22,aK 24 2 23,((some 5),.op (.alloc [(.val (.int .i64 0)),(.emp 1)])),(none,.op (.store 2 (.tmp 5) (.tmp 24)))]) <|
  .seq (.seq (.region [] [⟨none,[av 25 0 5,au 26 25,aA 27 .lss 26 3,aa 28 27]⟩,⟨(some (28,false)),[av 29 0 5,au 30 29,aA 31 .gtr 30 7]⟩,⟨none,[bJ 32 28 31]⟩]) <|
  .cond (.tmp 32) (.seq (.region [] [⟨none,[((some 33),.op (.build [(.val (.string ⟨#[]⟩)),(.val (.complex .f64 0 0))] [])),((some 6),.op (.alloc [(.val (.string ⟨#[]⟩)),(.val (.complex .f64 0 0))])),(none,.op (.store 2 (.tmp 6) (.tmp 33)))]⟩]) <|
  .seq (.seq (al [av 34 1 5,au 35 34,aJ 36 35,aA 37 .gtr 36 0]) <|
  .cond (.tmp 37) (al [av 38 1 5,au 39 38,((some 40),.op (.idx 2 (.tmp 39) (.val (.val (.int .i64 0))))),aK 41 2 40,(none,.op (.store 2 (.tmp 6) (.tmp 41)))]) (.skip)) <|
  .seq (al [aa 42 0,aK 43 2 6,c9 44 140 [(.tmp 42),(.tmp 43),(.val (.val (.int .i64 3)))]]) <|
  .ret) (.skip)) <|
  .seq (.seq (.region [] [⟨none,[av 45 0 5,au 46 45,aA 47 .neq 46 3,aa 48 47]⟩,⟨(some (48,true)),[av 49 0 5,au 50 49,aA 51 .neq 50 7]⟩,⟨none,[bG 52 48 51]⟩]) <|
  .cond (.tmp 52) (al [aa 53 0,bX 54 53,av 55 8 54,au 56 55,aA 57 .add 56 1,bX 58 53,av 59 8 58,(none,.op (.store 1 (.tmp 59) (.tmp 57)))]) (.skip)) <|
  .seq (al [aF 7 0]) <|
  .block 2 (.loop po))) <|
  al [aa 19 4,aA 20 .add 19 1,aa 4 20]
def jn:DF:=⟨.seq (al [aF 4 0]) <|
  .block 0 (.loop pz),
  [],83⟩
theorem oU:aY Tryz.prog 136 []=some jn:=by kernel_rfl
def iL:DF:=⟨.seq (al [bZ 5 2]) <|
  .block 0 (.seq (.region [] [⟨none,[av 63 0 5,au 64 63,aI 65 151 [64],b6 66 65,aa 67 66]⟩,⟨(some (67,false)),[aa 68 1,aA 69 .eql 68 7,aa 70 69]⟩,⟨(some (70,true)),[av 71 0 5,au 72 71,aI 73 154 [72],b6 74 73]⟩,⟨(some (67,false)),[bG 75 70 74]⟩,⟨none,[bJ 76 67 75,aa 62 76]⟩]) <|
  .cond (.tmp 62) (al [aa 77 0,aK 78 2 5,c9 79 140 [(.tmp 77),(.tmp 78),(.val (.val (.int .i64 3)))]]) (.seq (al [aa 81 1,aA 82 .eql 81 7,aa 80 82]) <|
  .cond (.tmp 80) (.seq (.seq (al [aa 83 0,bX 84 83,av 85 7 84,au 86 85]) <|
  .cond (.tmp 86) (al [aa 87 0,aK 88 2 5,c9 89 140 [(.tmp 87),(.tmp 88),(.val (.val (.int .i64 7)))]]) (.skip)) <|
  al [aa 90 0,aa 91 0,aK 92 2 5,bX 93 90,av 94 5 93,(none,.op (.store 2 (.tmp 94) (.tmp 92))),bX 95 91,av 96 7 95,(none,.op (.store 1 (.tmp 96) (.val (.val (.bool true)))))]) (.seq (al [aa 98 1,aA 99 .eql 98 3,aa 97 99]) <|
  .cond (.tmp 97) (.seq (.seq (al [aa 100 0,bX 101 100,av 102 4 101,au 103 102,av 104 0 5,au 105 104,aI 106 222 [103,105]]) <|
  .cond (.tmp 106) (al [aa 107 0,aK 108 2 5,c9 109 140 [(.tmp 107),(.tmp 108),(.val (.val (.int .i64 7)))]]) (.skip)) <|
  .seq (.region [] [⟨none,[aa 110 0,aa 111 0,bX 112 111,av 113 4 112,au 114 113,av 115 0 5,au 116 115,((some 117),.op (.bC 1 1 [(.val (.string ⟨#[]⟩))] [(0,(.tmp 116))])),((some 118),.op (.app 1 16 (.tmp 114) (.tmp 117))),bX 119 110,av 120 4 119,(none,.op (.store 1 (.tmp 120) (.tmp 118)))]⟩]) <|
  al [aa 121 0,aK 122 2 5,aI 123 223 [121,122]]) (.seq (al [aa 7 0,bX 8 7,av 9 0 8,aK 10 4 9,av 11 0 5,au 12 11,aI 13 152 [10,12],aa 6 13]) <|
  .seq (.seq (.region [] [⟨none,[aa 14 6,aA 15 .geq 14 0,aa 16 15]⟩,⟨(some (16,true)),[aa 17 0,bX 18 17,av 19 0 18,av 20 0 19,au 21 20,aa 22 6,aP 23 3 21 22,av 24 1 23,au 25 24,aA 26 .gtr 25 0]⟩,⟨none,[bG 27 16 26]⟩]) <|
  .cond (.tmp 27) (.seq (al [aa 28 0,aK 29 2 5,c9 30 140 [(.tmp 28),(.tmp 29),(.val (.val (.int .i64 7)))]]) <|
  .ret) (.skip)) <|
  .seq (al [aa 31 0,aK 32 2 5,aI 33 223 [31,32],aa 6 33]) <|
  .seq (al [aa 34 0,bX 35 34,av 36 10 35,au 37 36,aA 38 .eql 37 0]) <|
  .cond (.tmp 38) (al [aa 39 0,bX 40 39,av 41 0 40,av 42 0 41,au 43 42,aa 44 6,aa 45 0,bX 46 45,av 47 0 46,av 48 0 47,au 49 48,aa 50 6,aa 51 0,bX 52 51,av 53 8 52,au 54 53,aa 55 1,aA 56 .sub 55 4,aA 57 .add 56 1,aP 58 3 43 44,av 59 1 58,(none,.op (.store 1 (.tmp 59) (.tmp 54))),aP 60 3 49 50,av 61 2 60,(none,.op (.store 1 (.tmp 61) (.tmp 57)))]) (.skip))))),
  [],124⟩
theorem mO:aY Tryz.prog 185 [5]=some iL:=by kernel_rfl
def vL:DC :=
  .seq (.seq (al [aa 6 5,aa 7 0,aJ 8 7,aN 9 .lss 6 8]) <|
  .cond (.tmp 9) (.skip) (.exit 0)) <|
  .seq (.block 1 (.seq (al [aa 12 0,aa 13 5,aP 14 1 12 13,au 15 14,aa 16 1,((some 17),.op (.iR .eql (.tmp 15) (.tmp 16)))]) <|
  .cond (.tmp 17) (.seq (al [aX 4 true]) <|
  .ret) (.skip))) <|
  al [aa 10 5,aA 11 .add 10 1,aa 5 11]
def pG:DF:=⟨.seq (al [aX 4 false]) <|
  .seq (.seq (al [aF 5 0]) <|
  .block 0 (.loop vL)) <|
  .seq (al [aX 4 false]) <|
  .ret,
  [.tmp 4],18⟩
theorem uk:aY Tryz.prog 222 []=some pG:=by kernel_rfl
def pC:DC :=
  .seq (.seq (.region [] [⟨none,[aa 6 4,aa 7 1,aJ 8 7,aN 9 .lss 6 8,aa 10 9]⟩,⟨(some (10,true)),[aa 11 0,bX 12 11,av 13 10 12,au 14 13,aA 15 .eql 14 0]⟩,⟨none,[bG 16 10 15]⟩]) <|
  .cond (.tmp 16) (.skip) (.exit 0)) <|
  .seq (.block 1 (.seq (.region [] [⟨none,[aa 19 1,aa 20 4,aP 21 5 19 20,av 22 0 21,aK 23 2 22,((some 5),.op (.alloc [(.val (.string ⟨#[]⟩)),(.val (.complex .f64 0 0))])),(none,.op (.store 2 (.tmp 5) (.tmp 23)))]⟩]) <|
  .block 2 (.seq (al [av 38 0 5,au 39 38,aI 40 154 [39],b6 41 40,aa 37 41]) <|
  .cond (.tmp 37) (al [aa 42 0,aK 43 2 5,c9 44 140 [(.tmp 42),(.tmp 43),(.val (.val (.int .i64 3)))]]) (.seq (al [aa 46 0,bX 47 46,av 48 0 47,aK 49 4 48,av 50 0 5,au 51 50,aI 52 152 [49,51],aA 53 .geq 52 0,aa 45 53]) <|
  .cond (.tmp 45) (al [aa 54 0,aK 55 2 5,c9 56 140 [(.tmp 54),(.tmp 55),(.val (.val (.int .i64 7)))]]) (.seq (al [aa 58 0,bX 59 58,av 60 0 59,aK 61 4 60,av 62 0 5,au 63 62,aI 64 139 [61,63],aA 65 .geq 64 0,aa 57 65]) <|
  .cond (.tmp 57) (.skip) (.seq (al [aa 67 0,bX 68 67,av 69 0 68,av 70 1 69,au 71 70,aJ 72 71,aA 73 .eql 72 16,aa 66 73]) <|
  .cond (.tmp 66) (al [aa 74 0,aK 75 2 5,c9 76 140 [(.tmp 74),(.tmp 75),(.val (.val (.int .i64 5)))]]) (.region [] [⟨none,[aa 24 0,aa 25 0,bX 26 25,av 27 0 26,av 28 1 27,au 29 28,av 30 0 5,au 31 30,((some 32),.op (.bC 1 1 [(.val (.string ⟨#[]⟩))] [(0,(.tmp 31))])),((some 33),.op (.app 1 16 (.tmp 29) (.tmp 32))),bX 34 24,av 35 0 34,av 36 1 35,(none,.op (.store 1 (.tmp 36) (.tmp 33)))]⟩]))))))) <|
  al [aa 17 4,aA 18 .add 17 1,aa 4 18]
def jB:DF:=⟨.seq (al [aF 4 0]) <|
  .block 0 (.loop pC),
  [],77⟩
theorem pc:aY Tryz.prog 137 []=some jB:=by kernel_rfl
def BA:List (FuncId × DF):=[(49,oH),(94,mX),(134,mb),(177,oz),(212,pJ),(213,oL),(214,pj),(215,mK),(232,mI),(178,qA),(216,ql),(179,pH),(194,m9),(193,ng),(192,lG),(217,lH),(218,lg),(219,oF),(135,qK),(183,ji),(182,iQ),(220,jb),(221,ke),(181,jl),(184,jc),(180,iM),(95,na),(138,kf),(151,mZ),(154,oP),(140,kh),(186,ja),(139,pE),(152,oO),(223,iy),(136,jn),(185,iL),(222,pG),(137,jB)]
theorem Jp:uC Tryz.prog BA:=by
  intro p hp
  simp only[BA,List.mem_cons,List.not_mem_nil,or_false] at hp
  rcases hp with rfl | rfl | rfl | rfl | rfl | rfl | rfl | rfl | rfl | rfl | rfl | rfl | rfl | rfl | rfl | rfl | rfl | rfl | rfl | rfl | rfl | rfl | rfl | rfl | rfl | rfl | rfl | rfl | rfl | rfl | rfl | rfl | rfl | rfl | rfl | rfl | rfl | rfl | rfl
  · exact ⟨_,tN⟩
  · exact ⟨_,sr⟩
  · exact ⟨_,q9⟩
  · exact ⟨_,td⟩
  · exact ⟨_,ud⟩
  · exact ⟨_,sU⟩
  · exact ⟨_,sW⟩
  · exact ⟨_,rb⟩
  · exact ⟨_,ra⟩
  · exact ⟨_,vQ⟩
  · exact ⟨_,vN⟩
  · exact ⟨_,uA⟩
  · exact ⟨_,sD⟩
  · exact ⟨_,rZ⟩
  · exact ⟨_,qD⟩
  · exact ⟨_,qP⟩
  · exact ⟨_,qO⟩
  · exact ⟨_,tO⟩
  · exact ⟨_,vH⟩
  · exact ⟨_,nP⟩
  · exact ⟨_,mP⟩
  · exact ⟨_,nO⟩
  · exact ⟨_,px⟩
  · exact ⟨_,nL⟩
  · exact ⟨_,nt⟩
  · exact ⟨_,mQ⟩
  · exact ⟨_,sy⟩
  · exact ⟨_,pr⟩
  · exact ⟨_,sG⟩
  · exact ⟨_,tI⟩
  · exact ⟨_,pv⟩
  · exact ⟨_,nF⟩
  · exact ⟨_,u5⟩
  · exact ⟨_,ta⟩
  · exact ⟨_,lX⟩
  · exact ⟨_,oU⟩
  · exact ⟨_,mO⟩
  · exact ⟨_,uk⟩
  · exact ⟨_,pc⟩
def EY (l:List Int):V:=.aZ (l.map fun x=>[gy x])
theorem Ko (l:List Int):Tree (EY l):=eF _ _ fun x _ v hv=>by simp at hv; subst hv; exact .val _
def xX (g:ao):V:=.bu [.agg (aw g),.val (.complex .f64 0 0),gi 0]
theorem NZ {l:List Int} {g:ao} (h:x3 Tryz.prog BA (fun _ _ _=>none) 49 [EY l]=some (xX g)):dE Tryz.prog 49 [EY l] (xX g) :=
  uj mixed Jp (Nk _) (by intro v hv; simp at hv; subst hv; exact Ko _) h
abbrev cm (κ:Type):=List (κ × V × Nat)
def bR {κ:Type} (key:κ→Value) (m:cm κ):List (V × V × Nat):=m.map fun x=>(.val (key x.1),x.2.1,x.2.2)
def getM {κ:Type} [BEq κ] (m:cm κ) (k:κ):Option V:=(m.find? fun x=>k == x.1).map (·.2.1)
def bV {κ:Type} [BEq κ] (k:κ) (v:V) (c:Nat):cm κ→cm κ
  | []=>[(k,v,c)]
  | x :: r=>if k == x.1 then (k,v,x.2.2) :: r else x :: bV k v c r
structure zk {κ:Type} [BEq κ] (P:Program) (kt:TypeId) (key:κ→Value):Prop where
  ty:∃ d,P.underlying kt=some d∧(∀ a b,Instr.sameNow d (key a) (key b)=some (a == b))∧(∀ a e,bD P (Instr.checkKey e 10000 kt (key a))=some ())
  bits:∀ a b,(a == b)=true→Instr.sameBits 10000 (key b) (key a)=true
theorem tj {κ:Type} (key:κ→Value):∀ m:cm κ,iD (bR key m)=some (m.map fun x=>{ key:=key x.1,val:=.nilFunc,born:=x.2.2 })
  | []=>rfl
  | x :: r=>by
    have:=tj key r
    simp only[bR] at this
    simp[bR,iD,cY,this]
def jt {κ:Type} [BEq κ] (k:κ):cm κ→Option Nat
  | []=>none
  | x :: r=>if k == x.1 then some 0 else (jt k r).map (·+1)
theorem yG {κ:Type} [BEq κ] {key:κ→Value} {d:TypeDesc} (h:∀ a b,Instr.sameNow d (key a) (key b)=some (a == b)) (k:κ):∀ (m:cm κ) (i:Nat),
    Instr.findNow d (key k) (m.map fun x=>{ key:=key x.1,val:=.nilFunc,born:=x.2.2 }) i=some ((jt k m).map fun j=>(i+j,.nilFunc))
  | [],i=>rfl
  | x :: r,i=>by
    simp only[List.map_cons,Instr.findNow,h,jt]
    cases hk:k == x.1 with
    | true=>simp
    | false =>
      simp only[yG h k r (i+1),Bool.false_eq_true,if_false,Option.map_map]
      congr 2
      funext j
      simp only[Function.comp]
      congr 1
      omega
theorem wj {κ:Type} [BEq κ] {P:Program} {kt:TypeId} {key:κ→Value} (h:zk P kt key) (k:κ) (e:Bool) (m:cm κ):mB P kt (.val (key k)) e (bR key m)=some (jt k m):=by
  obtain ⟨d,hd,hn,hc⟩:=h.ty
  have hu:bD P (underlying kt)=some d:=eo hd
  simp only[mB,cY,tj,bw,hc,Option.bind_some]
  have:bD P (Instr.findKey kt (key k) (m.map fun x=>{ key:=key x.1,val:=.nilFunc,born:=x.2.2 }))=some ((jt k m).map fun j=>(0+j,.nilFunc)):=by
    unfold Instr.findKey
    rw[bw,hu,Option.bind_some,yG hn]
    rfl
  rw[this]
  cases jt k m with
  | none=>rfl
  | some j=>simp
theorem A0 {P:Program} {kt:TypeId} {d:TypeDesc} (h:P.underlying kt=some d) (hd:match d with | .int _ | .string | .bool=>True | _=>False) (e:Bool) (n:Nat) (v:Value):bD P (Instr.checkKey e (n+1) kt v)=some ():=by
  unfold Instr.checkKey
  rw[bw,eo h,Option.bind_some]
  cases d <;> first | exact hd.elim | rfl
theorem jG {P:Program} {kt:TypeId} (k:IntKind) (h:P.underlying kt=some (.int k)):zk P kt (Value.int k) where
  ty:=⟨_,h,fun a b=>by simp[Instr.sameNow],fun a e=>A0 h trivial e 9999 _⟩
  bits:=fun a b hab=>by
    have:a=b:=by simpa using hab
    subst this
    simp[Instr.sameBits]
theorem ve {κ:Type} [BEq κ] {key:κ→Value} (k:κ):∀ m:cm κ,match jt k m with
    | some i=>∃ x,m[i]?=some x∧(k == x.1)=true∧getM m k=some x.2.1∧(bR key m)[i]?=some (.val (key x.1),x.2.1,x.2.2)∧∀ v c,(bR key m).set i (.val (key k),v,x.2.2)=bR key (bV k v c m)∧(bV k v c m).length=m.length
    | none=>getM m k=none∧∀ v c,bR key m ++ [(.val (key k),v,c)]=bR key (bV k v c m)∧(bV k v c m).length=m.length+1
  | []=>⟨rfl,fun v c=>⟨rfl,rfl⟩⟩
  | x :: r=>by
    have ih:=ve (key:=key) k r
    simp only[jt]
    cases hk:k == x.1 with
    | true=>exact ⟨x,rfl,hk,by simp[getM,hk],rfl,fun v c=>by simp[bV,hk,bR]⟩
    | false =>
      simp only[Bool.false_eq_true,if_false]
      cases hi:jt k r with
      | some i =>
        rw[hi] at ih
        obtain ⟨y,h1,h2,h3,h4,h5⟩:=ih
        refine ⟨y,by simpa using h1,h2,by simpa [getM,hk] using h3,by simpa [bR] using h4,fun v c=>?_⟩
        obtain ⟨g1,g2⟩:=h5 v c
        exact ⟨by simp only[bR] at g1 ⊢; simp[bV,hk,g1],by simp[bV,hk,g2]⟩
      | none =>
        rw[hi] at ih
        refine ⟨by simpa [getM,hk] using ih.1,fun v c=>?_⟩
        obtain ⟨g1,g2⟩:=ih.2 v c
        exact ⟨by simp only[bR] at g1 ⊢; simp[bV,hk,g1],by simp[bV,hk,g2]⟩
section
variable {P:Program} {T:Env} {H:View} {κ:Type} [BEq κ] {key:κ→Value} {kt et t ty:TypeId}
theorem xK {K:V→View→Prop} {w:cD (T,H,K)} {x i:Operand} {z:V} {id c:Nat} {m:cm κ} {k:κ} (hm:fu P t=some (kt,et)) (hz:zeroV P et=some z) (hk:zk P kt key)
    (hx:ev T x=.mp id) (hi:ev T i=.val (key k)) (hH:H id=.map (bR key m) c) (h:K ((getM m k).getD z) H):nT P (.lookup t x i false) ty T H K w:=by
  intro n _
  have hf:=wj hk k (bR key m).isEmpty m
  have hg:=ve (key:=key) k m
  refine ⟨(getM m k).getD z,.none,[id],?_,h⟩
  simp only[sI,bY,oper,fp,hm,hz,hx,hi,hH,hf]
  cases hj:jt k m with
  | some j =>
    rw[hj] at hg
    obtain ⟨y,h1,h2,h3,h4,_⟩:=hg
    simp[h4,h3]
  | none =>
    rw[hj] at hg
    simp[hg.1]
theorem Nx {K:V→View→Prop} {w:cD (T,H,K)} {x i:Operand} {z:V} {id c:Nat} {m:cm κ} {k:κ} (hm:fu P t=some (kt,et)) (hz:zeroV P et=some z) (hk:zk P kt key)
    (hx:ev T x=.mp id) (hi:ev T i=.val (key k)) (hH:H id=.map (bR key m) c) (h:K (.bu [(getM m k).getD z,.val (.bool (getM m k).isSome)]) H):nT P (.lookup t x i true) ty T H K w:=by
  intro n _
  have hf:=wj hk k (bR key m).isEmpty m
  have hg:=ve (key:=key) k m
  refine ⟨_,.none,[id],?_,h⟩
  simp only[sI,bY,oper,fp,hm,hz,hx,hi,hH,hf]
  cases hj:jt k m with
  | some j =>
    rw[hj] at hg
    obtain ⟨y,h1,h2,h3,h4,_⟩:=hg
    simp[h4,h3]
  | none =>
    rw[hj] at hg
    simp[hg.1]
theorem Mj (hk:zk P kt key) (k k':κ) (h:(k == k')=true):sameKey (.val (key k')) (.val (key k))=true:=by
  simp only[sameKey,cY]; exact hk.bits _ _ h
theorem s8 {K:V→View→Prop} {w:cD (T,H,K)} {x i y:Operand} {id c:Nat} {m:cm κ} {k:κ} {v:V} (hm:fu P t=some (kt,et)) (hk:zk P kt key)
    (hx:ev T x=.mp id) (hi:ev T i=.val (key k)) (hy:ev T y=v) (hH:H id=.map (bR key m) c)
    (h:∀ c',K .any (H.set id (.map (bR key (bV k v c m)) c'))):nT P (.mapUpdate t x i y) ty T H K w:=by
  intro n _
  have hf:=wj hk k false m
  have hg:=ve (key:=key) k m
  cases hj:jt k m with
  | some j =>
    rw[hj] at hg hf
    obtain ⟨z,h1,h2,h3,h4,h5⟩:=hg
    refine ⟨.any,.eQ id (.map ((bR key m).set j (.val (key k),v,z.2.2)) c),[id],?_,?_⟩
    · simp only[sI,bY,oper,fD,hm,hx,hi,hy,hH,hf,h4,Mj hk k z.1 h2,if_true]
    · rw[(h5 v c).1]; exact h c
  | none =>
    rw[hj] at hg hf
    refine ⟨.any,.eQ id (.map (bR key m ++ [(.val (key k),v,c)]) (c+1)),[id],?_,?_⟩
    · simp only[sI,bY,oper,fD,hm,hx,hi,hy,hH,hf]
    · rw[(hg.2 v c).1]; exact h (c+1)
theorem OU {P:Program} {T:Env} {H:View} {t ty:TypeId} {x i y:Operand} {K:V→View→Prop} {w:cD (T,H,K)} : nT P (.insert t x i y) ty T H K w=nT P (.mapUpdate t x i y) ty T H K w:=propext Iff.rfl
omit [BEq κ] in
theorem Pc {K:V→View→Prop} {w:cD (T,H,K)} {x:Operand} {id c:Nat} {m:cm κ} (hm:fu P t=some (kt,et)) (hx:ev T x=.mp id) (hH:H id=.map (bR key m) c) (h:K (aj m.length) H) :
    nT P (.call { callee:=.builtin .len,args:=#[x],argTypes:=#[t] }) ty T H K w:=by
  intro n _
  have hu:∃ a b,P.underlying t=some (.map a b):=by
    unfold fu at hm
    split at hm
    · rename_i a b h1; exact ⟨a,b,h1⟩
    · simp at hm
  obtain ⟨a,b,hu⟩:=hu
  refine ⟨aj m.length,.none,[id],?_,h⟩
  have hl:(bR key m).length=m.length:=by simp[bR]
  simp only[sI,bY,oper,List.size_toArray,List.length_cons,List.length_nil,sB,hu,hx,hH,hl]
  simp[hu,hx,hH,hl,sB]
end
theorem y8 {κ:Type} [BEq κ] [LawfulBEq κ] (k k':κ) (v:V) (c:Nat):∀ m:cm κ,getM (bV k v c m) k'=if k' == k then some v else getM m k'
  | []=>by
    by_cases h:k'=k
    · subst h; simp[bV,getM]
    · simp[bV,getM,h]
  | x :: r=>by
    have ih:=y8 k k' v c r
    simp only[bV]
    by_cases hk:k=x.1
    · by_cases h:k'=k
      · subst h; simp[hk,getM]
      · have:¬ k'=x.1:=fun e=>h (e.trans hk.symm)
        simp[hk,getM,this]
    · simp only[beq_iff_eq,hk,if_false]
      by_cases h:k'=x.1
      · have:¬ k'=k:=fun e=>hk (e.symm.trans h)
        simp[getM,h]
        subst h
        simp[this]
      · simp only[getM,List.find?_cons,beq_eq_false_iff_ne.2 h] at ih ⊢
        exact ih
def dG {κ β:Type} [BEq κ] (a:List (κ × β)) (k:κ):Option β:=(a.find? fun x=>k == x.1).map (·.2)
def iX {κ β:Type} [BEq κ] (k:κ) (v:β):List (κ × β)→List (κ × β)
  | []=>[(k,v)]
  | x :: r=>if k == x.1 then (k,v) :: r else x :: iX k v r
def mH {κ β:Type} (encV:β→V):List (κ × β)→cm κ→Prop
  | [],[]=>True
  | x :: a,y :: m=>y.1=x.1∧y.2.1=encV x.2∧mH encV a m
  | _,_=>False
theorem mH.get {κ β:Type} [BEq κ] {encV:β→V} (k:κ):∀ {a:List (κ × β)} {m:cm κ},mH encV a m→getM m k=(dG a k).map encV
  | [],[],_=>rfl
  | x :: a,y :: m,⟨h1,h2,h3⟩=>by
    have ih:=mH.get k h3
    simp only[getM,dG,List.find?_cons,h1] at ih ⊢
    cases k == x.1 with
    | true=>simp[h2]
    | false=>simpa using ih
theorem mH.put {κ β:Type} [BEq κ] {encV:β→V} (k:κ) (v:β) (c:Nat):∀ {a:List (κ × β)} {m:cm κ},mH encV a m→mH encV (iX k v a) (bV k (encV v) c m)
  | [],[],_=>⟨rfl,rfl,trivial⟩
  | x :: a,y :: m,⟨h1,h2,h3⟩=>by
    have ih:=mH.put k v c h3
    simp only[iX,bV,h1]
    cases k == x.1 with
    | true=>exact ⟨rfl,rfl,h3⟩
    | false=>exact ⟨h1,h2,ih⟩
theorem mH.len {κ β:Type} {encV:β→V} : ∀ {a:List (κ × β)} {m:cm κ},mH encV a m→m.length=a.length
  | [],[],_=>rfl
  | x :: a,y :: m,⟨_,_,h3⟩=>by simp[mH.len h3]
theorem FV {κ β:Type} [BEq κ] [LawfulBEq κ] (k k':κ) (v:β):∀ a:List (κ × β),dG (iX k v a) k'=if k' == k then some v else dG a k'
  | []=>by
    by_cases h:k'=k
    · subst h; simp[iX,dG]
    · simp[iX,dG,h]
  | x :: r=>by
    have ih:=FV k k' v r
    simp only[iX]
    by_cases hk:k=x.1
    · by_cases h:k'=k
      · subst h; simp[hk,dG]
      · have:¬ k'=x.1:=fun e=>h (e.trans hk.symm)
        simp[hk,dG,this]
    · simp only[beq_iff_eq,hk,if_false]
      by_cases h:k'=x.1
      · have:¬ k'=k:=fun e=>hk (e.symm.trans h)
        simp[dG,h]
        subst h
        simp[this]
      · simp only[dG,List.find?_cons,beq_eq_false_iff_ne.2 h] at ih ⊢
        exact ih
def CP (n k:Nat) (J:Nat→Env→View→Prop) (T:Env) (H:View):Prop:=∃ i,i+k=n∧J i T H
theorem bz.up {P:Program} {T:Env} {H:View} {c:SC} {Q:Exit→Env→View→Prop} {v:cD (T,H,Q)} (n:Nat) (J:Nat→Env→View→Prop) (h0:J 0 T H)
    (hs:∀ i k T H,i+k=n→J i T H→wS P c T H fun e T' H'=>yC e (∃ k',k' < k∧CP n k' J T' H') (Q e T' H')):bz P c T H Q v :=
  bz.intro (fun k T H=>CP n k J T H) n ⟨0,by omega,h0⟩ fun k T H ⟨i,hk,hj⟩=>hs i k T H hk hj
theorem bq {n i k:Nat} {J:Nat→Env→View→Prop} {T:Env} {H:View} (hk:i+k=n) (hlt:i < n) (hJ:J (i+1) T H):∃ k',k' < k∧CP n k' J T H:=⟨k - 1,by omega,i+1,by omega,hJ⟩
end Gv
