/-
  Part 8 of the proof: what the machine does and what the functions answer.
  Conditions: those that each lemma names.
-/
import Derived.Test.YtgniimkconobpaaGreatSGzOG
set_option linter.unusedSimpArgs false
set_option linter.unusedVariables false
set_option linter.unusedSimpArgs false
set_option maxRecDepth 100000
namespace Gv
open Go Go.Proofs
def lB:DF:=⟨.seq (av [((some 2),.op (.alloc [(.emp 1),(.emp 1),(.emp 1),(.val (.int .i64 0))])),((some 3),.op (.bg (.val (.val (.complex .f64 0 0))))),aG 4 0]) <|
  .seq (av [aa 9 0,aF 10 51 [9],aa 8 10,bK 11 0 8,bK 12 1 8,bK 13 2 8,((some 5),.op (.alloc [(.emp 1),(.emp 1)])),(none,.op (.store 2 (.tmp 5) (.tmp 11))),aa 6 12,aa 7 13]) <|
  .seq (.seq (av [aa 14 7,ax 15 .neq 14 0]) <|
  .cond (.tmp 15) (.seq (av [((some 16),.op (.build [(.emp 1),(.emp 1),(.emp 1),(.val (.int .i64 0))] [])),aa 17 6,aa 18 7,(none,.op (.store 4 (.tmp 2) (.tmp 16))),aa 3 17,aa 4 18]) <|
  .ret) (.skip)) <|
  .seq (av [aO 19 2 5,aF 20 52 [19],bK 21 0 20,bK 22 1 20,bK 23 2 20,(none,.op (.store 4 (.tmp 2) (.tmp 21))),aa 3 22,aa 4 23]) <|
  .ret,
  [.cell 2 (some 4),.tmp 3,.tmp 4],24⟩
theorem qh:bm Tryz.prog 33 []=some lB:=by kernel_rfl
def kF:DF:=⟨.seq (av [((some 2),.op (.alloc [(.emp 1),(.emp 1)])),((some 3),.op (.bg (.val (.val (.complex .f64 0 0))))),aG 4 0]) <|
  .seq (av [aa 9 0,aF 10 90 [9],aa 8 10,bK 11 0 8,bK 12 1 8,bK 13 2 8,aa 5 11,aa 6 12,aa 7 13]) <|
  .seq (.seq (av [aa 14 7,ax 15 .neq 14 0]) <|
  .cond (.tmp 15) (.seq (av [((some 16),.op (.build [(.emp 1),(.emp 1)] [])),aa 17 6,aa 18 7,(none,.op (.store 2 (.tmp 2) (.tmp 16))),aa 3 17,aa 4 18]) <|
  .ret) (.skip)) <|
  .seq (av [aa 19 5,aa 20 6,aF 21 91 [19,20],bK 22 0 21,bK 23 1 21,bK 24 2 21,(none,.op (.store 2 (.tmp 2) (.tmp 22))),aa 3 23,aa 4 24]) <|
  .ret,
  [.cell 2 (some 2),.tmp 3,.tmp 4],25⟩
theorem oS:bm Tryz.prog 51 []=some kF:=by kernel_rfl
def o8:DC :=
  .seq (.seq (.region [] [⟨none,[aa 16 6,aa 17 0,aI 18 17,aK 19 .lss 16 18,aa 20 19]⟩,⟨(some (20,true)),[aa 21 7,ax 22 .lss 21 2]⟩,⟨none,[bk 23 20 22]⟩]) <|
  .cond (.tmp 23) (.skip) (.exit 0)) <|
  .block 1 (.seq (av [aa 25 0,aa 26 6,aF 27 131 [25,26],aa 24 27,bK 28 0 24,bK 29 1 24,aa 8 28,aa 9 29]) <|
  .seq (.seq (av [aa 30 8,ax 31 .lss 30 0]) <|
  .cond (.tmp 31) (.seq (av [aa 32 0,aa 33 6,aF 34 132 [32,33],((some 2),.op (.bg (.val (.emp 1)))),aa 3 34,aG 4 4]) <|
  .ret) (.skip)) <|
  .seq (.seq (av [aa 35 9]) <|
  .cond (.tmp 35) (.seq (av [aa 36 8,aa 6 36]) <|
  .exit 1) (.skip)) <|
  .seq (.region [] [⟨none,[aa 38 0,aa 39 6,aF 40 133 [38,39],aa 37 40,bK 41 0 37,bK 42 1 37,bK 43 2 37,((some 10),.op (.alloc [(.val (.int .i64 0)),(.val (.string ⟨#[]⟩)),(.val (.complex .f64 0 0))])),(none,.op (.store 3 (.tmp 10) (.tmp 41))),aa 11 42,aa 12 43]⟩]) <|
  .seq (.seq (av [aa 44 12,ax 45 .neq 44 0]) <|
  .cond (.tmp 45) (.seq (av [aq 46 2 10,ao 47 46,aa 48 12,((some 2),.op (.bg (.val (.emp 1)))),aa 3 47,aa 4 48]) <|
  .ret) (.skip)) <|
  .seq (.seq (av [aq 49 0 10,ao 50 49,ax 51 .eql 50 9]) <|
  .cond (.tmp 51) (av [aa 52 7,ax 53 .add 52 1,aa 7 53]) (.skip)) <|
  .region [] [⟨none,[aa 54 5,aO 55 3 10,((some 56),.op (.bu 1 3 [(.val (.int .i64 0)),(.val (.string ⟨#[]⟩)),(.val (.complex .f64 0 0))] [(0,(.tmp 55))])),((some 57),.op (.app 3 40 (.tmp 54) (.tmp 56))),aa 58 11,aa 5 57,aa 6 58]⟩])
def jT:DF:=⟨.seq (av [((some 2),.op (.bg (.val (.emp 1)))),((some 3),.op (.bg (.val (.val (.complex .f64 0 0))))),aG 4 0]) <|
  .seq (.seq (av [aa 13 0,aI 14 13,ax 15 .gtr 14 4000]) <|
  .cond (.tmp 15) (.seq (av [((some 2),.op (.bg (.val (.emp 1)))),((some 3),.op (.bg (.val (.val (.complex .f64 0 0))))),aG 4 5]) <|
  .ret) (.skip)) <|
  .seq (av [((some 5),.op (.bg (.val (.emp 1))))]) <|
  .seq (av [aG 6 0,aG 7 0]) <|
  .seq (.block 0 (.loop o8)) <|
  .seq (av [aa 59 5,aa 60 0,aa 61 0,aI 62 61,aF 63 132 [60,62],aa 2 59,aa 3 63,aG 4 0]) <|
  .ret,
  [.tmp 2,.tmp 3,.tmp 4],64⟩
theorem nZ:bm Tryz.prog 90 []=some jT:=by kernel_rfl
def lC:DF:=⟨.seq (av [aG 4 0,aP 5 false]) <|
  .seq (.block 0 (.seq (.region [] [⟨none,[aa 7 0,aa 8 1,aX 9 1 7 8,ao 10 9,((some 11),.op (.arith .eql (.tmp 10) (.val (.val (.int .u8 32))))),aa 12 11]⟩,⟨(some (12,false)),[aa 13 0,aa 14 1,aX 15 1 13 14,ao 16 15,((some 17),.op (.arith .eql (.tmp 16) (.val (.val (.int .u8 9)))))]⟩,⟨none,[bf 18 12 17,aa 19 18]⟩,⟨(some (19,false)),[aa 20 0,aa 21 1,aX 22 1 20 21,ao 23 22,((some 24),.op (.arith .eql (.tmp 23) (.val (.val (.int .u8 10)))))]⟩,⟨none,[bf 25 19 24,aa 26 25]⟩,⟨(some (26,false)),[aa 27 0,aa 28 1,aX 29 1 27 28,ao 30 29,((some 31),.op (.arith .eql (.tmp 30) (.val (.val (.int .u8 13)))))]⟩,⟨none,[bf 32 26 31,aa 6 32]⟩]) <|
  .cond (.tmp 6) (.seq (av [aa 33 1,ax 34 .add 33 1,aa 4 34,aP 5 true]) <|
  .ret) (.seq (.region [] [⟨none,[aa 36 0,aa 37 1,bT 38 159 [(.tmp 36),(.tmp 37),(.val (.val (.string ⟨#[47,42]⟩)))],aa 35 38]⟩]) <|
  .cond (.tmp 35) (.seq (.region [] [⟨none,[aa 39 0,aa 40 1,ax 41 .add 40 2,bT 42 160 [(.tmp 39),(.tmp 41),(.val (.val (.string ⟨#[42,47]⟩)))],aa 4 42,aP 5 true]⟩]) <|
  .ret) (.seq (.region [] [⟨none,[aa 44 0,aa 45 1,bT 46 159 [(.tmp 44),(.tmp 45),(.val (.val (.string ⟨#[47,47]⟩)))],aa 43 46]⟩]) <|
  .cond (.tmp 43) (.seq (av [aa 47 0,aa 48 1,aF 49 161 [47,48],aa 4 49,aP 5 true]) <|
  .ret) (.seq (.region [] [⟨none,[aa 51 0,aa 52 1,bT 53 159 [(.tmp 51),(.tmp 52),(.val (.val (.string ⟨#[37,123]⟩)))],aa 50 53]⟩]) <|
  .cond (.tmp 50) (.seq (.region [] [⟨none,[aa 54 0,aa 55 1,ax 56 .add 55 2,bT 57 160 [(.tmp 54),(.tmp 56),(.val (.val (.string ⟨#[37,125]⟩)))],aa 4 57,aP 5 true]⟩]) <|
  .ret) (.seq (av [aa 59 0,aa 60 1,aX 61 1 59 60,ao 62 61,((some 63),.op (.arith .eql (.tmp 62) (.val (.val (.int .u8 60))))),aa 58 63]) <|
  .cond (.tmp 58) (.seq (.region [] [⟨none,[aa 64 0,aa 65 0,aa 66 1,aF 67 161 [65,66],((some 68),.op (.slice 1 (.tmp 64) none (some (.tmp 67)))),aa 69 1,ax 70 .add 69 1,bT 71 160 [(.tmp 68),(.tmp 70),(.val (.val (.string ⟨#[62]⟩)))],aa 4 71,aP 5 true]⟩]) <|
  .ret) (.seq (av [aa 73 0,aa 74 1,aX 75 1 73 74,ao 76 75,((some 77),.op (.arith .eql (.tmp 76) (.val (.val (.int .u8 123))))),aa 72 77]) <|
  .cond (.tmp 72) (.seq (av [aa 78 0,aa 79 1,aF 80 162 [78,79],aa 4 80,aP 5 true]) <|
  .ret) (.skip)))))))) <|
  .seq (av [aa 81 1,aa 4 81,aP 5 false]) <|
  .ret,
  [.tmp 4,.tmp 5],82⟩
theorem qA:bm Tryz.prog 131 []=some lC:=by kernel_rfl
def mN:DF:=⟨.seq (av [aP 6 false]) <|
  .seq (.region [] [⟨none,[aa 7 1,aa 8 2,((some 9),.op (.eO (.tmp 8))),aK 10 .add 7 9,aa 11 0,aI 12 11,aK 13 .leq 10 12,aa 14 13]⟩,⟨(some (14,true)),[aa 15 0,aa 16 1,aa 17 1,aa 18 2,((some 19),.op (.eO (.tmp 18))),aK 20 .add 17 19,((some 21),.op (.slice 1 (.tmp 15) (some (.tmp 16)) (some (.tmp 20)))),((some 22),.op (.bc (.convert 57 9 (.tmp 21)) 9)),aa 23 2,((some 24),.op (.fO .eql (.tmp 22) (.tmp 23)))]⟩,⟨none,[bk 25 14 24,aa 6 25]⟩]) <|
  .ret,
  [.tmp 6],26⟩
theorem qG:bm Tryz.prog 159 []=some mN:=by kernel_rfl
def rH:DC :=
  .seq (.seq (av [aa 7 1,aa 8 0,aI 9 8,aK 10 .lss 7 9]) <|
  .cond (.tmp 10) (.skip) (.exit 0)) <|
  .block 1 (.seq (.seq (av [aa 11 0,aa 12 1,aa 13 2,aF 14 159 [11,12,13]]) <|
  .cond (.tmp 14) (.seq (av [aa 15 1,aa 16 2,((some 17),.op (.eO (.tmp 16))),aK 18 .add 15 17,aa 6 18]) <|
  .ret) (.skip)) <|
  av [aa 19 1,ax 20 .add 19 1,aa 1 20])
def mb:DF:=⟨.seq (av [aG 6 0]) <|
  .seq (.block 0 (.loop rH)) <|
  .seq (av [aG 6 (-1)]) <|
  .ret,
  [.tmp 6],21⟩
theorem qn:bm Tryz.prog 160 []=some mb:=by kernel_rfl
def rp:DC :=
  .seq (.seq (.region [] [⟨none,[aa 5 1,aa 6 0,aI 7 6,aK 8 .lss 5 7,aa 9 8]⟩,⟨(some (9,true)),[aa 10 0,aa 11 1,aX 12 1 10 11,ao 13 12,((some 14),.op (.arith .neq (.tmp 13) (.val (.val (.int .u8 10)))))]⟩,⟨none,[bk 15 9 14]⟩]) <|
  .cond (.tmp 15) (.skip) (.exit 0)) <|
  .block 1 (av [aa 16 1,ax 17 .add 16 1,aa 1 17])
def lL:DF:=⟨.seq (av [aG 4 0]) <|
  .seq (.block 0 (.loop rp)) <|
  .seq (av [aa 18 1,aa 4 18]) <|
  .ret,
  [.tmp 4],19⟩
theorem pJ:bm Tryz.prog 161 []=some lL:=by kernel_rfl
def pb:DC :=
  .seq (.seq (.region [] [⟨none,[aa 6 1,ax 7 .geq 6 0,aa 8 7]⟩,⟨(some (8,true)),[aa 9 1,aa 10 0,aI 11 10,aK 12 .lss 9 11]⟩,⟨none,[bk 13 8 12]⟩]) <|
  .cond (.tmp 13) (.skip) (.exit 0)) <|
  .block 1 (.seq (.seq (av [aa 14 0,aa 15 1,aX 16 1 14 15,ao 17 16]) <|
  .block 2 (.seq (av [((some 21),.op (.arith .eql (.tmp 17) (.val (.val (.int .u8 123))))),aa 20 21]) <|
  .cond (.tmp 20) (.seq (av [aa 22 5,ax 23 .add 22 1,aa 5 23]) <|
  av [aa 24 1,ax 25 .add 24 1,aa 1 25]) (.seq (av [((some 27),.op (.arith .eql (.tmp 17) (.val (.val (.int .u8 125))))),aa 26 27]) <|
  .cond (.tmp 26) (.seq (av [aa 28 5,ax 29 .sub 28 1,aa 5 29]) <|
  av [aa 30 1,ax 31 .add 30 1,aa 1 31]) (.seq (.seq (av [((some 33),.op (.arith .eql (.tmp 17) (.val (.val (.int .u8 39))))),aa 32 33]) <|
  .cond (.tmp 32) (.skip) (av [((some 34),.op (.arith .eql (.tmp 17) (.val (.val (.int .u8 34))))),aa 32 34])) <|
  .cond (.tmp 32) (av [aa 35 0,aa 36 1,aF 37 178 [35,36],aa 1 37]) (av [aa 18 1,ax 19 .add 18 1,aa 1 19]))))) <|
  .seq (.region [] [⟨none,[aa 38 5,ax 39 .eql 38 0,aa 40 39]⟩,⟨(some (40,true)),[aa 41 1,ax 42 .geq 41 0]⟩,⟨none,[bk 43 40 42]⟩]) <|
  .cond (.tmp 43) (.seq (av [aa 44 1,aa 4 44]) <|
  .ret) (.skip))
def jU:DF:=⟨.seq (av [aG 4 0]) <|
  .seq (av [aG 5 0]) <|
  .seq (.block 0 (.loop pb)) <|
  .seq (av [aG 4 (-1)]) <|
  .ret,
  [.tmp 4],45⟩
theorem og:bm Tryz.prog 162 []=some jU:=by kernel_rfl
def pt:DC :=
  .seq (.seq (av [aa 12 1,aa 13 0,aI 14 13,aK 15 .lss 12 14]) <|
  .cond (.tmp 15) (.skip) (.exit 0)) <|
  .block 1 (.seq (.seq (av [aa 16 0,aa 17 1,aX 18 1 16 17,ao 19 18,aa 20 5,aK 21 .eql 19 20]) <|
  .cond (.tmp 21) (.seq (av [aa 22 1,ax 23 .add 22 1,aa 4 23]) <|
  .ret) (.skip)) <|
  .seq (.seq (av [aa 24 0,aa 25 1,aX 26 1 24 25,ao 27 26,((some 28),.op (.arith .eql (.tmp 27) (.val (.val (.int .u8 92)))))]) <|
  .cond (.tmp 28) (av [aa 29 1,ax 30 .add 29 1,aa 1 30]) (.skip)) <|
  av [aa 31 1,ax 32 .add 31 1,aa 1 32])
def jI:DF:=⟨.seq (av [aG 4 0]) <|
  .seq (av [aa 6 0,aa 7 1,aX 8 1 6 7,ao 9 8,aa 5 9]) <|
  .seq (av [aa 10 1,ax 11 .add 10 1,aa 1 11]) <|
  .seq (.block 0 (.loop pt)) <|
  .seq (av [aG 4 (-1)]) <|
  .ret,
  [.tmp 4],33⟩
theorem nY:bm Tryz.prog 178 []=some jI:=by kernel_rfl
def sF:DC :=
  .seq (.seq (av [aa 16 7,aa 17 1,aK 18 .lss 16 17]) <|
  .cond (.tmp 18) (.skip) (.exit 0)) <|
  .seq (.block 1 (.seq (av [aa 21 6,ax 22 .add 21 1,aa 6 22]) <|
  .seq (av [aa 23 0,aa 24 7,aX 25 1 23 24,ao 26 25,((some 27),.op (.arith .eql (.tmp 26) (.val (.val (.int .u8 10)))))]) <|
  .cond (.tmp 27) (av [aa 28 5,ax 29 .add 28 1,aa 5 29,aG 6 1]) (.skip))) <|
  av [aa 19 7,ax 20 .add 19 1,aa 7 20]
def nO:DF:=⟨.seq (av [((some 4),.op (.bg (.val (.val (.complex .f64 0 0)))))]) <|
  .seq (.seq (.region [] [⟨none,[aa 8 1,ax 9 .lss 8 0,aa 10 9]⟩,⟨(some (10,false)),[aa 11 1,aa 12 0,aI 13 12,aK 14 .gtr 11 13]⟩,⟨none,[bf 15 10 14]⟩]) <|
  .cond (.tmp 15) (.seq (av [((some 4),.op (.bg (.val (.val (.complex .f64 0 0)))))]) <|
  .ret) (.skip)) <|
  .seq (av [aG 5 1,aG 6 1]) <|
  .seq (.seq (av [aG 7 0]) <|
  .block 0 (.loop sF)) <|
  .seq (av [aa 30 5,aa 31 6,aF 32 163 [30,31],aa 4 32]) <|
  .ret,
  [.tmp 4],33⟩
theorem sx:bm Tryz.prog 132 []=some nO:=by kernel_rfl
def nM:DF:=⟨.seq (av [((some 4),.op (.bg (.val (.val (.complex .f64 0 0)))))]) <|
  .seq (.seq (.region [] [⟨none,[aa 5 0,ax 6 .lss 5 1,aa 7 6]⟩,⟨(some (7,false)),[aa 8 0,ax 9 .gtr 8 1073741824]⟩,⟨none,[bf 10 7 9,aa 11 10]⟩,⟨(some (11,false)),[aa 12 1,ax 13 .lss 12 1]⟩,⟨none,[bf 14 11 13,aa 15 14]⟩,⟨(some (15,false)),[aa 16 1,ax 17 .gtr 16 1073741824]⟩,⟨none,[bf 18 15 17]⟩]) <|
  .cond (.tmp 18) (.seq (av [((some 4),.op (.bg (.val (.val (.complex .f64 0 0)))))]) <|
  .ret) (.skip)) <|
  .seq (av [aa 19 0,((some 20),.op (.bc (.convert 3 214 (.tmp 19)) 214)),aa 21 1,((some 22),.op (.bc (.convert 3 214 (.tmp 21)) 214)),((some 23),.op (.bc (.call { callee:=.builtin .complex,args:=#[(.tmp 20),(.tmp 22)],argTypes:=#[214,214] }) 54)),aa 4 23]) <|
  .ret,
  [.tmp 4],24⟩
theorem sB:bm Tryz.prog 163 []=some nM:=by kernel_rfl
def su:DC :=
  .seq (.seq (.region [] [⟨none,[aa 27 9,aa 28 0,aI 29 28,aK 30 .lss 27 29,aa 31 30]⟩,⟨(some (31,true)),[aa 32 0,aa 33 9,aX 34 1 32 33,ao 35 34,aF 36 149 [35]]⟩,⟨none,[bk 37 31 36]⟩]) <|
  .cond (.tmp 37) (.skip) (.exit 1)) <|
  .block 2 (av [aa 38 9,ax 39 .add 38 1,aa 9 39])
def sr:DC :=
  .seq (.seq (av [aa 58 10,ax 59 .leq 58 4]) <|
  .cond (.tmp 59) (.skip) (.exit 3)) <|
  .seq (.block 4 (.seq (.region [] [⟨none,[aa 62 1,aa 63 10,aK 64 .add 62 63,aa 65 0,aI 66 65,aK 67 .leq 64 66,aa 68 67]⟩,⟨(some (68,true)),[aa 69 0,aa 70 1,aa 71 1,aa 72 10,aK 73 .add 71 72,((some 74),.op (.slice 1 (.tmp 69) (some (.tmp 70)) (some (.tmp 73)))),((some 75),.op (.bc (.convert 57 9 (.tmp 74)) 9)),aF 76 147 [75]]⟩,⟨none,[bk 77 68 76]⟩]) <|
  .cond (.tmp 77) (.seq (.region [(6,8)] [⟨none,[aa 78 0,aa 79 1,aa 80 1,aa 81 10,aK 82 .add 80 81,((some 83),.op (.slice 1 (.tmp 78) (some (.tmp 79)) (some (.tmp 82)))),((some 84),.op (.bc (.convert 57 9 (.tmp 83)) 9)),aq 85 0 7,(none,.op (.store 1 (.tmp 85) (.val (.val (.int .i64 2))))),aq 86 1 7,(none,.op (.store 1 (.tmp 86) (.tmp 84)))]⟩]) <|
  .seq (av [aO 87 3 7,aa 88 1,aa 89 10,aK 90 .add 88 89,(none,.op (.store 3 (.tmp 4) (.tmp 87))),aa 5 90,aG 6 0]) <|
  .ret) (.skip))) <|
  av [aa 60 10,ax 61 .add 60 1,aa 10 61]
def so:DC :=
  .seq (.seq (.region [] [⟨none,[aa 108 9,aa 109 0,aI 110 109,aK 111 .lss 108 110,aa 112 111]⟩,⟨(some (112,true)),[aa 113 0,aa 114 9,aX 115 1 113 114,ao 116 115,((some 117),.op (.arith .geq (.tmp 116) (.val (.val (.int .u8 97)))))]⟩,⟨none,[bk 118 112 117,aa 119 118]⟩,⟨(some (119,true)),[aa 120 0,aa 121 9,aX 122 1 120 121,ao 123 122,((some 124),.op (.arith .leq (.tmp 123) (.val (.val (.int .u8 122)))))]⟩,⟨none,[bk 125 119 124]⟩]) <|
  .cond (.tmp 125) (.skip) (.exit 5)) <|
  .block 6 (av [aa 126 9,ax 127 .add 126 1,aa 9 127])
def mP:DF:=⟨.seq (.region [] [⟨none,[((some 4),.op (.alloc [(.val (.int .i64 0)),(.val (.string ⟨#[]⟩)),(.val (.complex .f64 0 0))])),aG 5 0,aG 6 0]⟩]) <|
  .seq (.region [] [⟨none,[aa 11 0,aa 12 1,aF 13 132 [11,12],((some 14),.op (.build [(.val (.int .i64 0)),(.val (.string ⟨#[]⟩)),(.val (.complex .f64 0 0))] [(2,1,(.tmp 13))])),((some 7),.op (.alloc [(.val (.int .i64 0)),(.val (.string ⟨#[]⟩)),(.val (.complex .f64 0 0))])),(none,.op (.store 3 (.tmp 7) (.tmp 14)))]⟩]) <|
  .seq (av [aa 15 0,aa 16 1,aX 17 1 15 16,ao 18 17,aa 8 18]) <|
  .seq (av [aa 19 1,ax 20 .add 19 1,aa 9 20]) <|
  .seq (.block 0 (.seq (av [aa 25 8,aF 26 148 [25],aa 24 26]) <|
  .cond (.tmp 24) (.seq (.block 1 (.loop su)) <|
  .seq (.seq (av [aa 40 9,aa 41 1,aK 42 .sub 40 41,ax 43 .gtr 42 20]) <|
  .cond (.tmp 43) (.seq (av [aO 44 3 7,aa 45 9,(none,.op (.store 3 (.tmp 4) (.tmp 44))),aa 5 45,aG 6 5]) <|
  .ret) (.skip)) <|
  .seq (.region [(4,6)] [⟨none,[aa 46 0,aa 47 1,aa 48 9,((some 49),.op (.slice 1 (.tmp 46) (some (.tmp 47)) (some (.tmp 48)))),((some 50),.op (.bc (.convert 57 9 (.tmp 49)) 9)),aq 51 0 7,(none,.op (.store 1 (.tmp 51) (.val (.val (.int .i64 1))))),aq 52 1 7,(none,.op (.store 1 (.tmp 52) (.tmp 50)))]⟩]) <|
  .seq (av [aO 53 3 7,aa 54 9,(none,.op (.store 3 (.tmp 4) (.tmp 53))),aa 5 54,aG 6 0]) <|
  .ret) (.seq (av [aa 56 8,((some 57),.op (.arith .eql (.tmp 56) (.val (.val (.int .u8 39))))),aa 55 57]) <|
  .cond (.tmp 55) (.seq (.seq (av [aG 10 3]) <|
  .block 3 (.loop sr)) <|
  .seq (.region [(0,5)] [⟨none,[aO 91 3 7,aa 92 9,aa 93 0,aa 94 1,((some 95),.op (.slice 1 (.tmp 93) (some (.tmp 94)) none)),aF 96 164 [95],(none,.op (.store 3 (.tmp 4) (.tmp 91))),aa 5 92,aa 6 96]⟩]) <|
  .ret) (.seq (.region [] [⟨none,[aa 98 0,aa 99 1,bT 100 159 [(.tmp 98),(.tmp 99),(.val (.val (.string ⟨#[37,37]⟩)))],aa 97 100]⟩]) <|
  .cond (.tmp 97) (.seq (av [aq 101 0 7,(none,.op (.store 1 (.tmp 101) (.val (.val (.int .i64 9)))))]) <|
  .seq (av [aO 102 3 7,aa 103 1,ax 104 .add 103 2,(none,.op (.store 3 (.tmp 4) (.tmp 102))),aa 5 104,aG 6 0]) <|
  .ret) (.seq (av [aa 106 8,((some 107),.op (.arith .eql (.tmp 106) (.val (.val (.int .u8 37))))),aa 105 107]) <|
  .cond (.tmp 105) (.seq (.block 5 (.loop so)) <|
  av [aa 128 0,aa 129 1,ax 130 .add 129 1,aa 131 9,((some 132),.op (.slice 1 (.tmp 128) (some (.tmp 130)) (some (.tmp 131)))),((some 133),.op (.bc (.convert 57 9 (.tmp 132)) 9)),aF 134 165 [133],aq 135 0 7,(none,.op (.store 1 (.tmp 135) (.tmp 134)))]) (av [aa 21 8,aF 22 166 [21],aq 23 0 7,(none,.op (.store 1 (.tmp 23) (.tmp 22)))])))))) <|
  .seq (.seq (av [aq 136 0 7,ao 137 136,ax 138 .eql 137 0]) <|
  .cond (.tmp 138) (.seq (av [aO 139 3 7,aa 140 9,(none,.op (.store 3 (.tmp 4) (.tmp 139))),aa 5 140,aG 6 3]) <|
  .ret) (.skip)) <|
  .seq (av [aO 141 3 7,aa 142 9,(none,.op (.store 3 (.tmp 4) (.tmp 141))),aa 5 142,aG 6 0]) <|
  .ret,
  [.cell 4 (some 3),.tmp 5,.tmp 6],143⟩
theorem q0:bm Tryz.prog 133 []=some mP:=by kernel_rfl
def ky:DF:=⟨.seq (av [aP 2 false]) <|
  .seq (.region [] [⟨none,[aa 3 0,aF 4 148 [3],aa 5 4]⟩,⟨(some (5,false)),[aa 6 0,((some 7),.op (.arith .geq (.tmp 6) (.val (.val (.int .u8 48))))),aa 8 7]⟩,⟨(some (8,true)),[aa 9 0,((some 10),.op (.arith .leq (.tmp 9) (.val (.val (.int .u8 57)))))]⟩,⟨(some (5,false)),[bk 11 8 10]⟩,⟨none,[bf 12 5 11,aa 13 12]⟩,⟨(some (13,false)),[aa 14 0,((some 15),.op (.arith .eql (.tmp 14) (.val (.val (.int .u8 46)))))]⟩,⟨none,[bf 16 13 15,aa 2 16]⟩]) <|
  .ret,
  [.tmp 2],17⟩
theorem po:bm Tryz.prog 149 []=some ky:=by kernel_rfl
def km:DF:=⟨.seq (av [aP 2 false]) <|
  .seq (.region [] [⟨none,[aa 3 0,((some 4),.op (.arith .geq (.tmp 3) (.val (.val (.int .u8 97))))),aa 5 4]⟩,⟨(some (5,true)),[aa 6 0,((some 7),.op (.arith .leq (.tmp 6) (.val (.val (.int .u8 122)))))]⟩,⟨none,[bk 8 5 7,aa 9 8]⟩,⟨(some (9,false)),[aa 10 0,((some 11),.op (.arith .geq (.tmp 10) (.val (.val (.int .u8 65))))),aa 12 11]⟩,⟨(some (12,true)),[aa 13 0,((some 14),.op (.arith .leq (.tmp 13) (.val (.val (.int .u8 90)))))]⟩,⟨(some (9,false)),[bk 15 12 14]⟩,⟨none,[bf 16 9 15,aa 17 16]⟩,⟨(some (17,false)),[aa 18 0,((some 19),.op (.arith .eql (.tmp 18) (.val (.val (.int .u8 95)))))]⟩,⟨none,[bf 20 17 19,aa 2 20]⟩]) <|
  .ret,
  [.tmp 2],21⟩
theorem pq:bm Tryz.prog 148 []=some km:=by kernel_rfl
def jt:DF:=⟨.seq (av [aP 2 false]) <|
  .seq (.seq (av [aa 3 0,((some 4),.op (.eO (.tmp 3))),ax 5 .eql 4 3]) <|
  .cond (.tmp 5) (.seq (.region [] [⟨none,[aa 6 0,((some 7),.op (.ct (.tmp 6) (.val (.val (.int .i64 0))))),((some 8),.op (.arith .eql (.tmp 7) (.val (.val (.int .u8 39))))),aa 9 8]⟩,⟨(some (9,true)),[aa 10 0,((some 11),.op (.ct (.tmp 10) (.val (.val (.int .i64 2))))),((some 12),.op (.arith .eql (.tmp 11) (.val (.val (.int .u8 39)))))]⟩,⟨none,[bk 13 9 12,aa 14 13]⟩,⟨(some (14,true)),[aa 15 0,((some 16),.op (.ct (.tmp 15) (.val (.val (.int .i64 1))))),((some 17),.op (.arith .geq (.tmp 16) (.val (.val (.int .u8 32)))))]⟩,⟨none,[bk 18 14 17,aa 19 18]⟩,⟨(some (19,true)),[aa 20 0,((some 21),.op (.ct (.tmp 20) (.val (.val (.int .i64 1))))),((some 22),.op (.arith .leq (.tmp 21) (.val (.val (.int .u8 126)))))]⟩,⟨none,[bk 23 19 22,aa 24 23]⟩,⟨(some (24,true)),[aa 25 0,((some 26),.op (.ct (.tmp 25) (.val (.val (.int .i64 1))))),((some 27),.op (.arith .neq (.tmp 26) (.val (.val (.int .u8 39)))))]⟩,⟨none,[bk 28 24 27,aa 29 28]⟩,⟨(some (29,true)),[aa 30 0,((some 31),.op (.ct (.tmp 30) (.val (.val (.int .i64 1))))),((some 32),.op (.arith .neq (.tmp 31) (.val (.val (.int .u8 92)))))]⟩,⟨none,[bk 33 29 32,aa 2 33]⟩]) <|
  .ret) (.skip)) <|
  .seq (.region [] [⟨none,[aa 34 0,((some 35),.op (.eO (.tmp 34))),ax 36 .eql 35 4,aa 37 36]⟩,⟨(some (37,true)),[aa 38 0,((some 39),.op (.ct (.tmp 38) (.val (.val (.int .i64 0))))),((some 40),.op (.arith .eql (.tmp 39) (.val (.val (.int .u8 39)))))]⟩,⟨none,[bk 41 37 40,aa 42 41]⟩,⟨(some (42,true)),[aa 43 0,((some 44),.op (.ct (.tmp 43) (.val (.val (.int .i64 3))))),((some 45),.op (.arith .eql (.tmp 44) (.val (.val (.int .u8 39)))))]⟩,⟨none,[bk 46 42 45,aa 47 46]⟩,⟨(some (47,true)),[aa 48 0,((some 49),.op (.ct (.tmp 48) (.val (.val (.int .i64 1))))),((some 50),.op (.arith .eql (.tmp 49) (.val (.val (.int .u8 92)))))]⟩,⟨none,[bk 51 47 50,aa 52 51]⟩,⟨(some (52,true)),[aa 53 0,((some 54),.op (.ct (.tmp 53) (.val (.val (.int .i64 2))))),((some 55),.op (.arith .eql (.tmp 54) (.val (.val (.int .u8 110))))),aa 56 55]⟩,⟨(some (56,false)),[aa 57 0,((some 58),.op (.ct (.tmp 57) (.val (.val (.int .i64 2))))),((some 59),.op (.arith .eql (.tmp 58) (.val (.val (.int .u8 116)))))]⟩,⟨(some (52,true)),[bf 60 56 59,aa 61 60]⟩,⟨(some (61,false)),[aa 62 0,((some 63),.op (.ct (.tmp 62) (.val (.val (.int .i64 2))))),((some 64),.op (.arith .eql (.tmp 63) (.val (.val (.int .u8 92)))))]⟩,⟨(some (52,true)),[bf 65 61 64,aa 66 65]⟩,⟨(some (66,false)),[aa 67 0,((some 68),.op (.ct (.tmp 67) (.val (.val (.int .i64 2))))),((some 69),.op (.arith .eql (.tmp 68) (.val (.val (.int .u8 39)))))]⟩,⟨(some (52,true)),[bf 70 66 69]⟩,⟨none,[bk 71 52 70,aa 2 71]⟩]) <|
  .ret,
  [.tmp 2],72⟩
theorem nR:bm Tryz.prog 147 []=some jt:=by kernel_rfl
def om:DC :=
  .seq (.seq (av [aa 6 4,aa 7 3,aI 8 7,aK 9 .lss 6 8]) <|
  .cond (.tmp 9) (.skip) (.exit 0)) <|
  .seq (.block 1 (.seq (.region [(5,9)] [⟨none,[aa 12 0,aI 13 12,ax 14 .lss 13 4,aa 15 14]⟩,⟨(some (15,true)),[aa 16 0,((some 17),.op (.bc (.convert 57 9 (.tmp 16)) 9)),aa 18 3,aa 19 4,aX 20 1 18 19,ao 21 20,((some 22),.op (.fO .add (.tmp 17) (.tmp 21))),aF 23 147 [22]]⟩,⟨none,[bk 24 15 23]⟩]) <|
  .cond (.tmp 24) (.seq (av [aG 2 4]) <|
  .ret) (.skip))) <|
  av [aa 10 4,ax 11 .add 10 1,aa 4 11]
def jf:DF:=⟨.seq (av [aG 2 0]) <|
  .seq (.region [] [⟨none,[((some 5),.op (.bu 5 1 [(.val (.string ⟨#[]⟩))] [(0,(.val (.val (.string ⟨#[120,39]⟩)))),(1,(.val (.val (.string ⟨#[39]⟩)))),(2,(.val (.val (.string ⟨#[92,110,39]⟩)))),(3,(.val (.val (.string ⟨#[110,39]⟩)))),(4,(.val (.val (.string ⟨#[92,39,39]⟩))))])),aa 3 5]⟩]) <|
  .seq (.seq (av [aG 4 0]) <|
  .block 0 (.loop om)) <|
  .seq (av [aG 2 3]) <|
  .ret,
  [.tmp 2],25⟩
theorem nH:bm Tryz.prog 164 []=some jf:=by kernel_rfl
def jc:DF:=⟨.seq (av [aG 2 0]) <|
  .seq (.seq (av [aa 3 0]) <|
  .block 0 (.seq (.region [] [⟨none,[((some 5),.op (.fO .eql (.tmp 3) (.val (.val (.string ⟨#[116,111,107,101,110]⟩))))),aa 4 5]⟩]) <|
  .cond (.tmp 4) (.seq (av [aG 2 3]) <|
  .ret) (.seq (.region [] [⟨none,[((some 7),.op (.fO .eql (.tmp 3) (.val (.val (.string ⟨#[108,101,102,116]⟩))))),aa 6 7]⟩]) <|
  .cond (.tmp 6) (.seq (av [aG 2 4]) <|
  .ret) (.seq (.region [] [⟨none,[((some 9),.op (.fO .eql (.tmp 3) (.val (.val (.string ⟨#[114,105,103,104,116]⟩))))),aa 8 9]⟩]) <|
  .cond (.tmp 8) (.seq (av [aG 2 5]) <|
  .ret) (.seq (.region [] [⟨none,[((some 11),.op (.fO .eql (.tmp 3) (.val (.val (.string ⟨#[110,111,110,97,115,115,111,99]⟩))))),aa 10 11]⟩]) <|
  .cond (.tmp 10) (.seq (av [aG 2 6]) <|
  .ret) (.seq (.region [] [⟨none,[((some 13),.op (.fO .eql (.tmp 3) (.val (.val (.string ⟨#[115,116,97,114,116]⟩))))),aa 12 13]⟩]) <|
  .cond (.tmp 12) (.seq (av [aG 2 7]) <|
  .ret) (.seq (.region [] [⟨none,[((some 15),.op (.fO .eql (.tmp 3) (.val (.val (.string ⟨#[112,114,101,99]⟩))))),aa 14 15]⟩]) <|
  .cond (.tmp 14) (.seq (av [aG 2 8]) <|
  .ret) (.skip)))))))) <|
  .seq (av [aG 2 0]) <|
  .ret,
  [.tmp 2],16⟩
theorem nG:bm Tryz.prog 165 []=some jc:=by kernel_rfl
def mf:DF:=⟨.seq (av [aG 2 0]) <|
  .seq (.seq (av [aa 3 0]) <|
  .block 0 (.seq (av [((some 5),.op (.arith .eql (.tmp 3) (.val (.val (.int .u8 58))))),aa 4 5]) <|
  .cond (.tmp 4) (.seq (av [aG 2 10]) <|
  .ret) (.seq (av [((some 7),.op (.arith .eql (.tmp 3) (.val (.val (.int .u8 124))))),aa 6 7]) <|
  .cond (.tmp 6) (.seq (av [aG 2 11]) <|
  .ret) (.seq (av [((some 9),.op (.arith .eql (.tmp 3) (.val (.val (.int .u8 59))))),aa 8 9]) <|
  .cond (.tmp 8) (.seq (av [aG 2 12]) <|
  .ret) (.skip))))) <|
  .seq (av [aG 2 0]) <|
  .ret,
  [.tmp 2],10⟩
theorem qm:bm Tryz.prog 166 []=some mf:=by kernel_rfl
def sY:DC :=
  .seq (.seq (.region [] [⟨none,[aa 21 7,bh 22 21,aq 23 3 22,ao 24 23,ax 25 .eql 24 0,aa 26 25]⟩,⟨(some (26,true)),[aa 27 7,bh 28 27,aq 29 0 28,ao 30 29,aI 31 30,ax 32 .gtr 31 0]⟩,⟨none,[bk 33 26 32,aa 34 33]⟩,⟨(some (34,true)),[aa 35 7,aF 36 137 [35],ax 37 .neq 36 9]⟩,⟨none,[bk 38 34 37]⟩]) <|
  .cond (.tmp 38) (.skip) (.exit 0)) <|
  .block 1 (.region [(1,3)] [⟨none,[aq 39 1 8,ao 40 39,aa 41 7,aF 42 136 [41],((some 43),.op (.app 5 88 (.tmp 40) (.tmp 42))),aq 44 1 8,(none,.op (.store 1 (.tmp 44) (.tmp 43)))]⟩])
def nQ:DF:=⟨.seq (av [((some 4),.op (.alloc [(.emp 1),(.emp 1)])),((some 5),.op (.bg (.val (.val (.complex .f64 0 0))))),aG 6 0]) <|
  .seq (av [aa 9 0,aa 10 1,((some 11),.op (.build [(.emp 1),(.val (.complex .f64 0 0)),(.val (.complex .f64 0 0)),(.val (.int .i64 0))] [(0,1,(.tmp 9)),(1,1,(.tmp 10))])),((some 12),.op (.box (.tmp 11))),aa 7 12]) <|
  .seq (av [aa 13 7,aF 14 134 [13],((some 15),.op (.build [(.emp 1),(.emp 1)] [(0,1,(.tmp 14))])),((some 8),.op (.alloc [(.emp 1),(.emp 1)])),(none,.op (.store 2 (.tmp 8) (.tmp 15)))]) <|
  .seq (av [aa 16 7,bT 17 135 [(.tmp 16),(.val (.val (.int .i64 9))),(.val (.val (.int .i64 9)))]]) <|
  .seq (av [aa 18 7,aF 19 136 [18],aq 20 1 8,(none,.op (.store 1 (.tmp 20) (.tmp 19)))]) <|
  .seq (.block 0 (.loop sY)) <|
  .seq (.seq (.region [] [⟨none,[aa 45 7,bh 46 45,aq 47 3 46,ao 48 47,ax 49 .eql 48 0,aa 50 49]⟩,⟨(some (50,true)),[aa 51 7,bh 52 51,aq 53 0 52,ao 54 53,aI 55 54,ax 56 .gtr 55 0]⟩,⟨none,[bk 57 50 56]⟩]) <|
  .cond (.tmp 57) (av [aa 58 7,bT 59 135 [(.tmp 58),(.val (.val (.int .i64 9))),(.val (.val (.int .i64 9)))]]) (.skip)) <|
  .seq (.seq (av [aa 60 7,bh 61 60,aq 62 0 61,ao 63 62,aI 64 63,ax 65 .gtr 64 0]) <|
  .cond (.tmp 65) (av [aa 66 7,aF 67 138 [66]]) (.skip)) <|
  .seq (.seq (av [aa 68 7,bh 69 68,aq 70 3 69,ao 71 70,ax 72 .neq 71 0]) <|
  .cond (.tmp 72) (.seq (.region [(4,9),(8,9)] [⟨none,[((some 73),.op (.build [(.emp 1),(.emp 1)] [])),aa 74 7,bh 75 74,aq 76 2 75,ao 77 76,aa 78 7,bh 79 78,aq 80 3 79,ao 81 80,(none,.op (.store 2 (.tmp 4) (.tmp 73))),aa 5 77,aa 6 81]⟩]) <|
  .ret) (.skip)) <|
  .seq (av [aO 82 2 8,(none,.op (.store 2 (.tmp 4) (.tmp 82))),((some 5),.op (.bg (.val (.val (.complex .f64 0 0))))),aG 6 0]) <|
  .ret,
  [.cell 4 (some 2),.tmp 5,.tmp 6],83⟩
theorem sA:bm Tryz.prog 91 []=some nQ:=by kernel_rfl
def fM:DF:=⟨.seq (av [aG 2 0]) <|
  .seq (.seq (.region [] [⟨none,[aa 3 0,bh 4 3,aq 5 3 4,ao 6 5,ax 7 .neq 6 0,aa 8 7]⟩,⟨(some (8,false)),[aa 9 0,bh 10 9,aq 11 0 10,ao 12 11,aI 13 12,ax 14 .eql 13 0]⟩,⟨none,[bf 15 8 14]⟩]) <|
  .cond (.tmp 15) (.seq (av [aG 2 0]) <|
  .ret) (.skip)) <|
  .seq (av [aa 16 0,bh 17 16,aq 18 0 17,ao 19 18,((some 20),.op (.idx 3 (.tmp 19) (.val (.val (.int .i64 0))))),aq 21 0 20,ao 22 21,aa 2 22]) <|
  .ret,
  [.tmp 2],23⟩
theorem kG:bm Tryz.prog 137 []=some fM:=by kernel_rfl
def kU:DC :=
  .seq (.seq (av [aa 10 0,bh 11 10,aq 12 3 11,ao 13 12,ax 14 .eql 13 0]) <|
  .cond (.tmp 14) (.skip) (.exit 0)) <|
  .block 1 (.seq (.region [(0,2),(2,4)] [⟨none,[aO 15 2 4,aa 16 0,aF 17 167 [16],((some 18),.op (.build [(.val (.string ⟨#[]⟩)),(.val (.complex .f64 0 0)),(.emp 1),(.val (.string ⟨#[]⟩)),(.val (.complex .f64 0 0))] [(0,2,(.tmp 15)),(2,1,(.tmp 17))])),((some 5),.op (.alloc [(.val (.string ⟨#[]⟩)),(.val (.complex .f64 0 0)),(.emp 1),(.val (.string ⟨#[]⟩)),(.val (.complex .f64 0 0))])),(none,.op (.store 5 (.tmp 5) (.tmp 18)))]⟩]) <|
  .seq (.seq (av [aa 19 0,bT 20 168 [(.tmp 19),(.val (.val (.int .i64 8))),(.val (.val (.int .i64 8)))]]) <|
  .cond (.tmp 20) (.seq (av [aa 21 0,bT 22 135 [(.tmp 21),(.val (.val (.int .i64 8))),(.val (.val (.int .i64 8)))]]) <|
  av [aa 23 0,bT 24 135 [(.tmp 23),(.val (.val (.int .i64 1))),(.val (.val (.int .i64 2)))],aq 25 3 5,(none,.op (.store 2 (.tmp 25) (.tmp 24)))]) (.skip)) <|
  .seq (.region [] [⟨none,[aa 26 3,aO 27 5 5,((some 28),.op (.bu 1 5 [(.val (.string ⟨#[]⟩)),(.val (.complex .f64 0 0)),(.emp 1),(.val (.string ⟨#[]⟩)),(.val (.complex .f64 0 0))] [(0,(.tmp 27))])),((some 29),.op (.app 5 88 (.tmp 26) (.tmp 28))),aa 3 29]⟩]) <|
  .seq (.seq (av [aa 30 0,bT 31 168 [(.tmp 30),(.val (.val (.int .i64 11))),(.val (.val (.int .i64 11)))],bQ 32 31]) <|
  .cond (.tmp 32) (.seq (av [aa 33 0,bT 34 135 [(.tmp 33),(.val (.val (.int .i64 12))),(.val (.val (.int .i64 12)))]]) <|
  .seq (av [aa 35 3,aa 2 35]) <|
  .ret) (.skip)) <|
  av [aa 36 0,bT 37 135 [(.tmp 36),(.val (.val (.int .i64 11))),(.val (.val (.int .i64 11)))]])
def fy:DF:=⟨.seq (av [((some 2),.op (.bg (.val (.emp 1))))]) <|
  .seq (av [((some 3),.op (.bg (.val (.emp 1))))]) <|
  .seq (.region [] [⟨none,[aa 6 0,bT 7 135 [(.tmp 6),(.val (.val (.int .i64 1))),(.val (.val (.int .i64 1)))],((some 4),.op (.alloc [(.val (.string ⟨#[]⟩)),(.val (.complex .f64 0 0))])),(none,.op (.store 2 (.tmp 4) (.tmp 7)))]⟩]) <|
  .seq (av [aa 8 0,bT 9 135 [(.tmp 8),(.val (.val (.int .i64 10))),(.val (.val (.int .i64 10)))]]) <|
  .seq (.block 0 (.loop kU)) <|
  .seq (av [aa 38 3,aa 2 38]) <|
  .ret,
  [.tmp 2],39⟩
theorem kg:bm Tryz.prog 136 []=some fy:=by kernel_rfl
def lM:DC :=
  .seq (.seq (av [aa 4 0,bT 5 168 [(.tmp 4),(.val (.val (.int .i64 1))),(.val (.val (.int .i64 2)))]]) <|
  .cond (.tmp 5) (.skip) (.exit 0)) <|
  .block 1 (.region [] [⟨none,[aa 6 3,aa 7 0,bT 8 135 [(.tmp 7),(.val (.val (.int .i64 1))),(.val (.val (.int .i64 2)))],((some 9),.op (.bu 1 2 [(.val (.string ⟨#[]⟩)),(.val (.complex .f64 0 0))] [(0,(.tmp 8))])),((some 10),.op (.app 2 32 (.tmp 6) (.tmp 9))),aa 3 10]⟩])
def fY:DF:=⟨.seq (av [((some 2),.op (.bg (.val (.emp 1))))]) <|
  .seq (av [((some 3),.op (.bg (.val (.emp 1))))]) <|
  .seq (.block 0 (.loop lM)) <|
  .seq (av [aa 11 3,aa 2 11]) <|
  .ret,
  [.tmp 2],12⟩
theorem kX:bm Tryz.prog 167 []=some fY:=by kernel_rfl
def hX:DF:=⟨.seq (av [aP 6 false]) <|
  .seq (.region [] [⟨none,[aa 7 0,bh 8 7,aq 9 0 8,ao 10 9,aI 11 10,ax 12 .gtr 11 0,aa 13 12]⟩,⟨(some (13,true)),[aa 14 0,aF 15 137 [14],aa 16 1,aK 17 .eql 15 16,aa 18 17]⟩,⟨(some (18,false)),[aa 19 0,aF 20 137 [19],aa 21 2,aK 22 .eql 20 21]⟩,⟨(some (13,true)),[bf 23 18 22]⟩,⟨none,[bk 24 13 23,aa 6 24]⟩]) <|
  .ret,
  [.tmp 6],25⟩
theorem mH:bm Tryz.prog 168 []=some hX:=by kernel_rfl
def fW:DF:=⟨.seq (.region [] [⟨none,[((some 6),.op (.alloc [(.val (.string ⟨#[]⟩)),(.val (.complex .f64 0 0))]))]⟩]) <|
  .seq (.seq (.region [] [⟨none,[aa 8 0,bh 9 8,aq 10 3 9,ao 11 10,ax 12 .neq 11 0,aa 13 12]⟩,⟨(some (13,false)),[aa 14 0,aa 15 1,aa 16 2,aF 17 168 [14,15,16],bQ 18 17]⟩,⟨none,[bf 19 13 18]⟩]) <|
  .cond (.tmp 19) (.seq (av [aa 20 0,aF 21 138 [20]]) <|
  .seq (.region [] [⟨none,[((some 22),.op (.build [(.val (.string ⟨#[]⟩)),(.val (.complex .f64 0 0))] [])),(none,.op (.store 2 (.tmp 6) (.tmp 22)))]⟩]) <|
  .ret) (.skip)) <|
  .seq (.region [] [⟨none,[aa 23 0,bh 24 23,aq 25 0 24,ao 26 25,((some 27),.op (.idx 3 (.tmp 26) (.val (.val (.int .i64 0))))),aO 28 3 27,((some 7),.op (.alloc [(.val (.int .i64 0)),(.val (.string ⟨#[]⟩)),(.val (.complex .f64 0 0))])),(none,.op (.store 3 (.tmp 7) (.tmp 28)))]⟩]) <|
  .seq (av [aa 29 0,aa 30 0,bh 31 30,aq 32 0 31,ao 33 32,((some 34),.op (.slice 3 (.tmp 33) (some (.val (.val (.int .i64 1)))) none)),bh 35 29,aq 36 0 35,(none,.op (.store 1 (.tmp 36) (.tmp 34)))]) <|
  .seq (.region [] [⟨none,[aq 37 1 7,ao 38 37,aq 39 2 7,ao 40 39,((some 41),.op (.build [(.val (.string ⟨#[]⟩)),(.val (.complex .f64 0 0))] [(0,1,(.tmp 38)),(1,1,(.tmp 40))])),(none,.op (.store 2 (.tmp 6) (.tmp 41)))]⟩]) <|
  .ret,
  [.cell 6 (some 2)],42⟩
theorem k5:bm Tryz.prog 135 []=some fW:=by kernel_rfl
def fX:DF:=⟨.seq (.seq (av [aa 2 0,bh 3 2,aq 4 3 3,ao 5 4,ax 6 .neq 5 0]) <|
  .cond (.tmp 6) (.ret) (.skip)) <|
  .seq (av [aa 7 0,aa 8 0,aa 9 0,bh 10 9,aq 11 1 10,ao 12 11,bh 13 7,aq 14 2 13,(none,.op (.store 1 (.tmp 14) (.tmp 12))),bh 15 8,aq 16 3 15,(none,.op (.store 1 (.tmp 16) (.val (.val (.int .i64 4)))))]) <|
  .seq (av [aa 17 0,bh 18 17,aq 19 0 18,ao 20 19,aI 21 20,ax 22 .gtr 21 0]) <|
  .cond (.tmp 22) (av [aa 23 0,aa 24 0,aa 25 0,bh 26 25,aq 27 0 26,ao 28 27,((some 29),.op (.idx 3 (.tmp 28) (.val (.val (.int .i64 0))))),aq 30 2 29,ao 31 30,bh 32 23,aq 33 2 32,(none,.op (.store 1 (.tmp 33) (.tmp 31))),bh 34 24,aq 35 3 34,(none,.op (.store 1 (.tmp 35) (.val (.val (.int .i64 3)))))]) (.skip),
  [],36⟩
theorem kN:bm Tryz.prog 138 []=some fX:=by kernel_rfl
def kY:DC :=
  .seq (.seq (.region [] [⟨none,[aa 6 0,bh 7 6,aq 8 3 7,ao 9 8,ax 10 .eql 9 0,aa 11 10]⟩,⟨(some (11,true)),[aa 12 0,bh 13 12,aq 14 0 13,ao 15 14,aI 16 15,ax 17 .gtr 16 0]⟩,⟨none,[bk 18 11 17,aa 19 18]⟩,⟨(some (19,true)),[aa 20 0,aF 21 137 [20],ax 22 .neq 21 9]⟩,⟨none,[bk 23 19 22]⟩]) <|
  .cond (.tmp 23) (.skip) (.exit 0)) <|
  .block 1 (.seq (av [aa 24 0,aF 25 137 [24],aa 4 25]) <|
  .seq (.seq (av [aa 26 4,ax 27 .eql 26 7]) <|
  .cond (.tmp 27) (.seq (av [aa 28 0,aa 29 4,aa 30 4,aF 31 135 [28,29,30]]) <|
  .seq (.region [] [⟨none,[aa 32 3,aa 33 4,aa 34 0,bT 35 135 [(.tmp 34),(.val (.val (.int .i64 1))),(.val (.val (.int .i64 1)))],((some 36),.op (.bu 1 2 [(.val (.string ⟨#[]⟩)),(.val (.complex .f64 0 0))] [(0,(.tmp 35))])),((some 37),.op (.build [(.val (.int .i64 0)),(.emp 1)] [(0,1,(.tmp 33)),(1,1,(.tmp 36))])),((some 38),.op (.bu 1 2 [(.val (.int .i64 0)),(.emp 1)] [(0,(.tmp 37))])),((some 39),.op (.app 2 32 (.tmp 32) (.tmp 38))),aa 3 39]⟩]) <|
  .exit 1) (.skip)) <|
  .seq (.seq (.region [] [⟨none,[aa 40 4,ax 41 .neq 40 3,aa 42 41]⟩,⟨(some (42,true)),[aa 43 4,ax 44 .neq 43 4]⟩,⟨none,[bk 45 42 44,aa 46 45]⟩,⟨(some (46,true)),[aa 47 4,ax 48 .neq 47 5]⟩,⟨none,[bk 49 46 48,aa 50 49]⟩,⟨(some (50,true)),[aa 51 4,ax 52 .neq 51 6]⟩,⟨none,[bk 53 50 52]⟩]) <|
  .cond (.tmp 53) (.seq (av [aa 54 0,aF 55 138 [54]]) <|
  .exit 1) (.skip)) <|
  .seq (av [aa 56 0,aa 57 4,aa 58 4,aF 59 135 [56,57,58]]) <|
  .seq (.region [] [⟨none,[aa 60 0,bT 61 135 [(.tmp 60),(.val (.val (.int .i64 1))),(.val (.val (.int .i64 2)))],((some 5),.op (.alloc [(.val (.string ⟨#[]⟩)),(.val (.complex .f64 0 0))])),(none,.op (.store 2 (.tmp 5) (.tmp 61)))]⟩]) <|
  .region [(2,5),(3,5)] [⟨none,[aa 62 3,aa 63 4,aO 64 2 5,((some 65),.op (.bu 1 2 [(.val (.string ⟨#[]⟩)),(.val (.complex .f64 0 0))] [(0,(.tmp 64))])),aa 66 0,aF 67 167 [66],((some 68),.op (.app 2 32 (.tmp 65) (.tmp 67))),((some 69),.op (.build [(.val (.int .i64 0)),(.emp 1)] [(0,1,(.tmp 63)),(1,1,(.tmp 68))])),((some 70),.op (.bu 1 2 [(.val (.int .i64 0)),(.emp 1)] [(0,(.tmp 69))])),((some 71),.op (.app 2 32 (.tmp 62) (.tmp 70))),aa 3 71]⟩])
def fB:DF:=⟨.seq (av [((some 2),.op (.bg (.val (.emp 1))))]) <|
  .seq (av [((some 3),.op (.bg (.val (.emp 1))))]) <|
  .seq (.block 0 (.loop kY)) <|
  .seq (av [aa 72 3,aa 2 72]) <|
  .ret,
  [.tmp 2],73⟩
theorem kh:bm Tryz.prog 134 []=some fB:=by kernel_rfl
def pG:DC :=
  .seq (.seq (.region [] [⟨none,[aa 17 6,aq 18 1 1,ao 19 18,aI 20 19,aK 21 .lss 17 20,aa 22 21]⟩,⟨(some (22,true)),[aa 23 5,bh 24 23,aq 25 10 24,ao 26 25,ax 27 .eql 26 0]⟩,⟨none,[bk 28 22 27]⟩]) <|
  .cond (.tmp 28) (.skip) (.exit 0)) <|
  .seq (.block 1 (av [aa 31 5,aq 32 1 1,ao 33 32,aa 34 6,aX 35 5 33 34,aO 36 5 35,aF 37 94 [31,36]])) <|
  av [aa 29 6,ax 30 .add 29 1,aa 6 30]
def kE:DF:=⟨.seq (av [b7 1 0,((some 2),.op (.alloc [(.emp 1),(.emp 1),(.emp 1),(.val (.int .i64 0))])),((some 3),.op (.bg (.val (.val (.complex .f64 0 0))))),aG 4 0]) <|
  .seq (.region [] [⟨none,[((some 7),.op (.build [(.emp 1),(.emp 1),(.emp 1),(.val (.int .i64 0)),(.emp 1),(.val (.string ⟨#[]⟩)),(.val (.complex .f64 0 0)),(.val (.bool false)),(.val (.int .i64 0)),(.val (.complex .f64 0 0)),(.val (.int .i64 0))] [])),((some 8),.op (.box (.tmp 7))),aa 5 8]⟩]) <|
  .seq (av [aa 9 5,aq 10 0 1,ao 11 10,aF 12 92 [9,11]]) <|
  .seq (av [aa 13 5,aq 14 1 1,ao 15 14,aF 16 93 [13,15]]) <|
  .seq (.seq (av [aG 6 0]) <|
  .block 0 (.loop pG)) <|
  .seq (.seq (.region [] [⟨none,[aa 38 5,bh 39 38,aq 40 7 39,ao 41 40,aa 42 41]⟩,⟨(some (42,true)),[aa 43 5,bh 44 43,aq 45 0 44,aO 46 4 45,aa 47 5,bh 48 47,aq 49 5 48,aq 50 0 49,ao 51 50,aF 52 95 [46,51],ax 53 .lss 52 0]⟩,⟨none,[bk 54 42 53]⟩]) <|
  .cond (.tmp 54) (av [aa 55 5,aa 56 5,bh 57 56,aq 58 5 57,aO 59 2 58,bT 60 96 [(.tmp 55),(.tmp 59),(.val (.val (.int .i64 8)))]]) (.skip)) <|
  .seq (.seq (av [aq 61 1 1,ao 62 61,aI 63 62,ax 64 .eql 63 0]) <|
  .cond (.tmp 64) (.region [] [⟨none,[aa 65 5,((some 66),.op (.build [(.val (.string ⟨#[]⟩)),(.val (.complex .f64 0 0))] [])),bT 67 96 [(.tmp 65),(.tmp 66),(.val (.val (.int .i64 8)))]]⟩]) (.skip)) <|
  .seq (.seq (av [aa 68 5,bh 69 68,aq 70 10 69,ao 71 70,ax 72 .neq 71 0]) <|
  .cond (.tmp 72) (.seq (.region [(4,9),(8,9)] [⟨none,[((some 73),.op (.build [(.emp 1),(.emp 1),(.emp 1),(.val (.int .i64 0))] [])),aa 74 5,bh 75 74,aq 76 9 75,ao 77 76,aa 78 5,bh 79 78,aq 80 10 79,ao 81 80,(none,.op (.store 4 (.tmp 2) (.tmp 73))),aa 3 77,aa 4 81]⟩]) <|
  .ret) (.skip)) <|
  .seq (.seq (av [aa 82 5,bh 83 82,aq 84 7 83,ao 85 84]) <|
  .cond (.tmp 85) (av [aa 86 5,aa 87 5,bh 88 87,aq 89 0 88,aO 90 4 89,aa 91 5,bh 92 91,aq 93 5 92,aq 94 0 93,ao 95 94,aF 96 95 [90,95],bh 97 86,aq 98 0 97,aq 99 3 98,(none,.op (.store 1 (.tmp 99) (.tmp 96)))]) (.skip)) <|
  .seq (av [aa 100 5,bh 101 100,aq 102 0 101,aO 103 4 102,(none,.op (.store 4 (.tmp 2) (.tmp 103))),((some 3),.op (.bg (.val (.val (.complex .f64 0 0))))),aG 4 0]) <|
  .ret,
  [.cell 2 (some 4),.tmp 3,.tmp 4],104⟩
theorem pB:bm Tryz.prog 52 [1]=some kE:=by kernel_rfl
def na:DC :=
  .seq (.seq (.region [] [⟨none,[aa 28 5,aq 29 2 3,ao 30 29,aI 31 30,aK 32 .lss 28 31,aa 33 32]⟩,⟨(some (33,true)),[aa 34 0,bh 35 34,aq 36 10 35,ao 37 36,ax 38 .eql 37 0]⟩,⟨none,[bk 39 33 38]⟩]) <|
  .cond (.tmp 39) (.skip) (.exit 0)) <|
  .seq (.block 1 (.seq (.region [] [⟨none,[aq 42 2 3,ao 43 42,aa 44 5,aX 45 2 43 44,aO 46 2 45,((some 6),.op (.alloc [(.val (.string ⟨#[]⟩)),(.val (.complex .f64 0 0))])),(none,.op (.store 2 (.tmp 6) (.tmp 46)))]⟩]) <|
  .seq (.seq (av [aq 47 0 6,ao 48 47,aF 49 113 [48],bQ 50 49]) <|
  .cond (.tmp 50) (.seq (av [aa 51 0,aO 52 2 6,bT 53 96 [(.tmp 51),(.tmp 52),(.val (.val (.int .i64 3)))]]) <|
  .ret) (.skip)) <|
  .seq (.seq (av [aa 54 5,ax 55 .eql 54 6]) <|
  .cond (.tmp 55) (.seq (av [aa 56 0,aO 57 2 6,bT 58 96 [(.tmp 56),(.tmp 57),(.val (.val (.int .i64 5)))]]) <|
  .ret) (.skip)) <|
  .seq (av [aa 59 0,aO 60 2 6,bT 61 140 [(.tmp 59),(.tmp 60),(.val (.val (.bool true)))],aa 7 61]) <|
  .seq (av [aq 62 1 4,ao 63 62,aa 64 7,((some 65),.op (.bu 1 1 [(.val (.int .i64 0))] [(0,(.tmp 64))])),((some 66),.op (.app 1 8 (.tmp 63) (.tmp 65))),aq 67 1 4,(none,.op (.store 1 (.tmp 67) (.tmp 66)))]) <|
  .seq (av [aa 68 7,ax 69 .geq 68 0]) <|
  .cond (.tmp 69) (av [aa 70 7,aq 71 2 4,(none,.op (.store 1 (.tmp 71) (.tmp 70)))]) (.skip))) <|
  av [aa 40 5,ax 41 .add 40 1,aa 5 41]
def hO:DF:=⟨.seq (av [b7 3 1]) <|
  .seq (.region [(7,9)] [⟨none,[aa 8 0,bh 9 8,aq 10 0 9,aO 11 4 10,aq 12 0 3,aq 13 0 12,ao 14 13,aF 15 95 [11,14],((some 16),.op (.build [(.val (.int .i64 0)),(.emp 1),(.val (.int .i64 0))] [(0,1,(.tmp 15)),(2,1,(.val (.val (.int .i64 (-1)))))])),((some 4),.op (.alloc [(.val (.int .i64 0)),(.emp 1),(.val (.int .i64 0))])),(none,.op (.store 3 (.tmp 4) (.tmp 16)))]⟩]) <|
  .seq (.seq (av [aa 17 0,bh 18 17,aq 19 0 18,aq 20 2 19,ao 21 20,aI 22 21,ax 23 .eql 22 40]) <|
  .cond (.tmp 23) (av [aa 24 0,aq 25 0 3,aO 26 2 25,bT 27 96 [(.tmp 24),(.tmp 26),(.val (.val (.int .i64 5)))]]) (.skip)) <|
  .seq (.seq (av [aG 5 0]) <|
  .block 0 (.loop na)) <|
  .seq (.seq (.region [] [⟨none,[aq 72 3 3,aq 73 0 72,ao 74 73,((some 75),.op (.fO .neq (.tmp 74) (.val (.val (.string ⟨#[]⟩))))),aa 76 75]⟩,⟨(some (76,true)),[aa 77 0,bh 78 77,aq 79 10 78,ao 80 79,ax 81 .eql 80 0]⟩,⟨none,[bk 82 76 81]⟩]) <|
  .cond (.tmp 82) (.seq (.seq (av [aq 83 3 3,aq 84 0 83,ao 85 84,aF 86 113 [85],bQ 87 86]) <|
  .cond (.tmp 87) (.seq (av [aa 88 0,aq 89 3 3,aO 90 2 89,bT 91 96 [(.tmp 88),(.tmp 90),(.val (.val (.int .i64 3)))]]) <|
  .ret) (.skip)) <|
  av [aa 92 0,aq 93 3 3,aO 94 2 93,bT 95 140 [(.tmp 92),(.tmp 94),(.val (.val (.bool false)))],aq 96 2 4,(none,.op (.store 1 (.tmp 96) (.tmp 95)))]) (.skip)) <|
  av [aa 97 0,aa 98 0,bh 99 98,aq 100 0 99,aq 101 2 100,ao 102 101,aO 103 3 4,((some 104),.op (.bu 1 3 [(.val (.int .i64 0)),(.emp 1),(.val (.int .i64 0))] [(0,(.tmp 103))])),((some 105),.op (.app 3 40 (.tmp 102) (.tmp 104))),bh 106 97,aq 107 0 106,aq 108 2 107,(none,.op (.store 1 (.tmp 108) (.tmp 105)))],
  [],109⟩
theorem mC:bm Tryz.prog 94 [3]=some hO:=by kernel_rfl
def ks:DF:=⟨.seq (av [aP 2 false]) <|
  .seq (.region [] [⟨none,[aa 3 0,aF 4 116 [3],aa 5 4]⟩,⟨(some (5,false)),[aa 6 0,aF 7 147 [6]]⟩,⟨none,[bf 8 5 7,aa 2 8]⟩]) <|
  .ret,
  [.tmp 2],9⟩
theorem pf:bm Tryz.prog 113 []=some ks:=by kernel_rfl
def rQ:DC :=
  .seq (.seq (av [aa 18 3,aa 19 0,((some 20),.op (.eO (.tmp 19))),aK 21 .lss 18 20]) <|
  .cond (.tmp 21) (.skip) (.exit 0)) <|
  .seq (.block 1 (.seq (av [aa 24 0,aa 25 3,((some 26),.op (.ct (.tmp 24) (.tmp 25))),aF 27 149 [26],bQ 28 27]) <|
  .cond (.tmp 28) (.seq (av [aP 2 false]) <|
  .ret) (.skip))) <|
  av [aa 22 3,ax 23 .add 22 1,aa 3 23]
def l9:DF:=⟨.seq (av [aP 2 false]) <|
  .seq (.seq (.region [] [⟨none,[aa 4 0,((some 5),.op (.eO (.tmp 4))),ax 6 .eql 5 0,aa 7 6]⟩,⟨(some (7,false)),[aa 8 0,((some 9),.op (.eO (.tmp 8))),ax 10 .gtr 9 20]⟩,⟨none,[bf 11 7 10,aa 12 11]⟩,⟨(some (12,false)),[aa 13 0,((some 14),.op (.ct (.tmp 13) (.val (.val (.int .i64 0))))),aF 15 148 [14],bQ 16 15]⟩,⟨none,[bf 17 12 16]⟩]) <|
  .cond (.tmp 17) (.seq (av [aP 2 false]) <|
  .ret) (.skip)) <|
  .seq (.seq (av [aG 3 0]) <|
  .block 0 (.loop rQ)) <|
  .seq (av [aP 2 true]) <|
  .ret,
  [.tmp 2],29⟩
theorem qd:bm Tryz.prog 116 []=some l9:=by kernel_rfl
def hE:DF:=⟨.seq (av [b7 4 1]) <|
  .seq (av [aa 6 0,bh 7 6,aq 8 10 7,ao 9 8,ax 10 .eql 9 0]) <|
  .cond (.tmp 10) (av [aa 11 0,aa 12 0,aq 13 1 4,ao 14 13,aa 15 2,bh 16 11,aq 17 9 16,(none,.op (.store 1 (.tmp 17) (.tmp 14))),bh 18 12,aq 19 10 18,(none,.op (.store 1 (.tmp 19) (.tmp 15)))]) (.skip),
  [],20⟩
theorem mo:bm Tryz.prog 96 [4]=some hE:=by kernel_rfl
def fT:DF:=⟨.seq (av [b7 4 1,aG 6 0]) <|
  .seq (av [aa 8 0,bh 9 8,aq 10 0 9,aO 11 4 10,aq 12 0 4,ao 13 12,aF 14 95 [11,13],aa 7 14]) <|
  .seq (.block 0 (.seq (.region [] [⟨none,[aa 19 7,ax 20 .geq 19 0,aa 21 20]⟩,⟨(some (21,true)),[aa 22 2]⟩,⟨none,[bk 23 21 22,aa 18 23]⟩]) <|
  .cond (.tmp 18) (.seq (av [aa 24 7,((some 25),.op (.arith .sub (.val (.val (.int .i64 (-1)))) (.tmp 24))),aa 6 25]) <|
  .ret) (.seq (av [aa 27 7,ax 28 .geq 27 0,aa 26 28]) <|
  .cond (.tmp 26) (av [aa 29 0,aO 30 2 4,bT 31 96 [(.tmp 29),(.tmp 30),(.val (.val (.int .i64 6)))]]) (.seq (.region [] [⟨none,[aa 33 0,bh 34 33,aq 35 0 34,aO 36 4 35,aq 37 0 4,ao 38 37,aF 39 114 [36,38],ax 40 .geq 39 0,aa 41 40]⟩,⟨(some (41,false)),[aq 42 0 4,ao 43 42,aF 44 147 [43]]⟩,⟨none,[bf 45 41 44,aa 46 45]⟩,⟨(some (46,false)),[aq 47 0 4,ao 48 47,((some 49),.op (.fO .eql (.tmp 48) (.val (.val (.string ⟨#[101,114,114,111,114]⟩)))))]⟩,⟨none,[bf 50 46 49,aa 32 50]⟩]) <|
  .cond (.tmp 32) (.seq (av [aa 51 0,aO 52 2 4,aF 53 170 [51,52],aa 6 53]) <|
  .ret) (av [aa 15 0,aO 16 2 4,bT 17 96 [(.tmp 15),(.tmp 16),(.val (.val (.int .i64 6)))]]))))) <|
  .seq (av [aG 6 0]) <|
  .ret,
  [.tmp 6],54⟩
theorem kO:bm Tryz.prog 140 [4]=some fT:=by kernel_rfl
def sq:DC :=
  .seq (.seq (av [aa 6 5,aq 7 1 2,ao 8 7,aI 9 8,aK 10 .lss 6 9]) <|
  .cond (.tmp 10) (.skip) (.exit 0)) <|
  .seq (.block 1 (.seq (av [aq 13 1 2,ao 14 13,aa 15 5,aX 16 1 14 15,ao 17 16,aa 18 1,((some 19),.op (.fO .eql (.tmp 17) (.tmp 18)))]) <|
  .cond (.tmp 19) (.seq (av [aa 20 5,aa 4 20]) <|
  .ret) (.skip))) <|
  av [aa 11 5,ax 12 .add 11 1,aa 5 12]
def mO:DF:=⟨.seq (av [b7 2 0,aG 4 0]) <|
  .seq (.seq (av [aG 5 0]) <|
  .block 0 (.loop sq)) <|
  .seq (av [aG 4 (-1)]) <|
  .ret,
  [.tmp 4],21⟩
theorem ri:bm Tryz.prog 95 [2]=some mO:=by kernel_rfl
def rE:DC :=
  .seq (.seq (av [aa 6 5,aq 7 0 2,ao 8 7,aI 9 8,aK 10 .lss 6 9]) <|
  .cond (.tmp 10) (.skip) (.exit 0)) <|
  .seq (.block 1 (.seq (av [aq 13 0 2,ao 14 13,aa 15 5,aX 16 3 14 15,aq 17 0 16,ao 18 17,aa 19 1,((some 20),.op (.fO .eql (.tmp 18) (.tmp 19)))]) <|
  .cond (.tmp 20) (.seq (av [aa 21 5,aa 4 21]) <|
  .ret) (.skip))) <|
  av [aa 11 5,ax 12 .add 11 1,aa 5 12]
def lF:DF:=⟨.seq (av [b7 2 0,aG 4 0]) <|
  .seq (.seq (av [aG 5 0]) <|
  .block 0 (.loop rE)) <|
  .seq (av [aG 4 (-1)]) <|
  .ret,
  [.tmp 4],22⟩
theorem qb:bm Tryz.prog 114 [2]=some lF:=by kernel_rfl
def fh:DF:=⟨.seq (av [b7 3 1,aG 4 0]) <|
  .seq (av [aa 6 0,bh 7 6,aq 8 0 7,aO 9 4 8,aq 10 0 3,ao 11 10,aF 12 114 [9,11],aa 5 12]) <|
  .seq (.seq (av [aa 13 5,ax 14 .geq 13 0]) <|
  .cond (.tmp 14) (.seq (av [aa 15 5,aa 4 15]) <|
  .ret) (.skip)) <|
  .seq (.seq (av [aa 16 0,bh 17 16,aq 18 0 17,aq 19 0 18,ao 20 19,aI 21 20,ax 22 .eql 21 24]) <|
  .cond (.tmp 22) (.seq (av [aa 23 0,aO 24 2 3,bT 25 96 [(.tmp 23),(.tmp 24),(.val (.val (.int .i64 5)))]]) <|
  .seq (av [aG 4 0]) <|
  .ret) (.skip)) <|
  .seq (.region [] [⟨none,[aa 26 0,aa 27 0,bh 28 27,aq 29 0 28,aq 30 0 29,ao 31 30,aq 32 0 3,ao 33 32,((some 34),.op (.build [(.val (.string ⟨#[]⟩)),(.val (.int .i64 0)),(.val (.int .i64 0))] [(0,1,(.tmp 33))])),((some 35),.op (.bu 1 3 [(.val (.string ⟨#[]⟩)),(.val (.int .i64 0)),(.val (.int .i64 0))] [(0,(.tmp 34))])),((some 36),.op (.app 3 32 (.tmp 31) (.tmp 35))),bh 37 26,aq 38 0 37,aq 39 0 38,(none,.op (.store 1 (.tmp 39) (.tmp 36)))]⟩]) <|
  .seq (av [aa 40 0,bh 41 40,aq 42 0 41,aq 43 0 42,ao 44 43,aI 45 44,ax 46 .sub 45 1,aa 4 46]) <|
  .ret,
  [.tmp 4],47⟩
theorem jK:bm Tryz.prog 170 [3]=some fh:=by kernel_rfl
def my:DC :=
  .seq (.seq (.region [] [⟨none,[aa 60 7,aq 61 1 5,ao 62 61,aI 63 62,aK 64 .lss 60 63,aa 65 64]⟩,⟨(some (65,true)),[aa 66 0,bh 67 66,aq 68 10 67,ao 69 68,ax 70 .eql 69 0]⟩,⟨none,[bk 71 65 70]⟩]) <|
  .cond (.tmp 71) (.skip) (.exit 2)) <|
  .seq (.block 3 (av [aa 74 0,aq 75 0 5,ao 76 75,aq 77 1 5,ao 78 77,aa 79 7,aX 80 2 78 79,aO 81 2 80,aF 82 139 [74,76,81]])) <|
  av [aa 72 7,ax 73 .add 72 1,aa 7 73]
def mA:DC :=
  .seq (.seq (.region [] [⟨none,[aa 8 4,aa 9 1,aI 10 9,aK 11 .lss 8 10,aa 12 11]⟩,⟨(some (12,true)),[aa 13 0,bh 14 13,aq 15 10 14,ao 16 15,ax 17 .eql 16 0]⟩,⟨none,[bk 18 12 17]⟩]) <|
  .cond (.tmp 18) (.skip) (.exit 0)) <|
  .seq (.block 1 (.seq (av [aa 21 1,aa 22 4,aX 23 2 21 22,aO 24 2 23,((some 5),.op (.alloc [(.val (.int .i64 0)),(.emp 1)])),(none,.op (.store 2 (.tmp 5) (.tmp 24)))]) <|
  .seq (.seq (.region [] [⟨none,[aq 25 0 5,ao 26 25,ax 27 .lss 26 3,aa 28 27]⟩,⟨(some (28,false)),[aq 29 0 5,ao 30 29,ax 31 .gtr 30 7]⟩,⟨none,[bf 32 28 31]⟩]) <|
  .cond (.tmp 32) (.seq (.region [] [⟨none,[((some 33),.op (.build [(.val (.string ⟨#[]⟩)),(.val (.complex .f64 0 0))] [])),((some 6),.op (.alloc [(.val (.string ⟨#[]⟩)),(.val (.complex .f64 0 0))])),(none,.op (.store 2 (.tmp 6) (.tmp 33)))]⟩]) <|
  .seq (.seq (av [aq 34 1 5,ao 35 34,aI 36 35,ax 37 .gtr 36 0]) <|
  .cond (.tmp 37) (av [aq 38 1 5,ao 39 38,((some 40),.op (.idx 2 (.tmp 39) (.val (.val (.int .i64 0))))),aO 41 2 40,(none,.op (.store 2 (.tmp 6) (.tmp 41)))]) (.skip)) <|
  .seq (av [aa 42 0,aO 43 2 6,bT 44 96 [(.tmp 42),(.tmp 43),(.val (.val (.int .i64 3)))]]) <|
  .ret) (.skip)) <|
  .seq (.seq (.region [] [⟨none,[aq 45 0 5,ao 46 45,ax 47 .neq 46 3,aa 48 47]⟩,⟨(some (48,true)),[aq 49 0 5,ao 50 49,ax 51 .neq 50 7]⟩,⟨none,[bk 52 48 51]⟩]) <|
  .cond (.tmp 52) (av [aa 53 0,bh 54 53,aq 55 8 54,ao 56 55,ax 57 .add 56 1,bh 58 53,aq 59 8 58,(none,.op (.store 1 (.tmp 59) (.tmp 57)))]) (.skip)) <|
  .seq (av [aG 7 0]) <|
  .block 2 (.loop my))) <|
  av [aa 19 4,ax 20 .add 19 1,aa 4 20]
def gm:DF:=⟨.seq (av [aG 4 0]) <|
  .block 0 (.loop mA),
  [],83⟩
theorem l0:bm Tryz.prog 92 []=some gm:=by kernel_rfl
def fC:DF:=⟨.seq (av [b7 5 2]) <|
  .block 0 (.seq (.region [] [⟨none,[aq 63 0 5,ao 64 63,aF 65 113 [64],bQ 66 65,aa 67 66]⟩,⟨(some (67,false)),[aa 68 1,ax 69 .eql 68 7,aa 70 69]⟩,⟨(some (70,true)),[aq 71 0 5,ao 72 71,aF 73 116 [72],bQ 74 73]⟩,⟨(some (67,false)),[bk 75 70 74]⟩,⟨none,[bf 76 67 75,aa 62 76]⟩]) <|
  .cond (.tmp 62) (av [aa 77 0,aO 78 2 5,bT 79 96 [(.tmp 77),(.tmp 78),(.val (.val (.int .i64 3)))]]) (.seq (av [aa 81 1,ax 82 .eql 81 7,aa 80 82]) <|
  .cond (.tmp 80) (.seq (.seq (av [aa 83 0,bh 84 83,aq 85 7 84,ao 86 85]) <|
  .cond (.tmp 86) (av [aa 87 0,aO 88 2 5,bT 89 96 [(.tmp 87),(.tmp 88),(.val (.val (.int .i64 7)))]]) (.skip)) <|
  av [aa 90 0,aa 91 0,aO 92 2 5,bh 93 90,aq 94 5 93,(none,.op (.store 2 (.tmp 94) (.tmp 92))),bh 95 91,aq 96 7 95,(none,.op (.store 1 (.tmp 96) (.val (.val (.bool true)))))]) (.seq (av [aa 98 1,ax 99 .eql 98 3,aa 97 99]) <|
  .cond (.tmp 97) (.seq (.seq (av [aa 100 0,bh 101 100,aq 102 4 101,ao 103 102,aq 104 0 5,ao 105 104,aF 106 169 [103,105]]) <|
  .cond (.tmp 106) (av [aa 107 0,aO 108 2 5,bT 109 96 [(.tmp 107),(.tmp 108),(.val (.val (.int .i64 7)))]]) (.skip)) <|
  .seq (.region [] [⟨none,[aa 110 0,aa 111 0,bh 112 111,aq 113 4 112,ao 114 113,aq 115 0 5,ao 116 115,((some 117),.op (.bu 1 1 [(.val (.string ⟨#[]⟩))] [(0,(.tmp 116))])),((some 118),.op (.app 1 16 (.tmp 114) (.tmp 117))),bh 119 110,aq 120 4 119,(none,.op (.store 1 (.tmp 120) (.tmp 118)))]⟩]) <|
  av [aa 121 0,aO 122 2 5,aF 123 170 [121,122]]) (.seq (av [aa 7 0,bh 8 7,aq 9 0 8,aO 10 4 9,aq 11 0 5,ao 12 11,aF 13 114 [10,12],aa 6 13]) <|
  .seq (.seq (.region [] [⟨none,[aa 14 6,ax 15 .geq 14 0,aa 16 15]⟩,⟨(some (16,true)),[aa 17 0,bh 18 17,aq 19 0 18,aq 20 0 19,ao 21 20,aa 22 6,aX 23 3 21 22,aq 24 1 23,ao 25 24,ax 26 .gtr 25 0]⟩,⟨none,[bk 27 16 26]⟩]) <|
  .cond (.tmp 27) (.seq (av [aa 28 0,aO 29 2 5,bT 30 96 [(.tmp 28),(.tmp 29),(.val (.val (.int .i64 7)))]]) <|
  .ret) (.skip)) <|
  .seq (av [aa 31 0,aO 32 2 5,aF 33 170 [31,32],aa 6 33]) <|
  .seq (av [aa 34 0,bh 35 34,aq 36 10 35,ao 37 36,ax 38 .eql 37 0]) <|
  .cond (.tmp 38) (av [aa 39 0,bh 40 39,aq 41 0 40,aq 42 0 41,ao 43 42,aa 44 6,aa 45 0,bh 46 45,aq 47 0 46,aq 48 0 47,ao 49 48,aa 50 6,aa 51 0,bh 52 51,aq 53 8 52,ao 54 53,aa 55 1,ax 56 .sub 55 4,ax 57 .add 56 1,aX 58 3 43 44,aq 59 1 58,(none,.op (.store 1 (.tmp 59) (.tmp 54))),aX 60 3 49 50,aq 61 2 60,(none,.op (.store 1 (.tmp 61) (.tmp 57)))]) (.skip))))),
  [],124⟩
theorem ki:bm Tryz.prog 139 [5]=some fC:=by kernel_rfl
def sy:DC :=
  .seq (.seq (av [aa 6 5,aa 7 0,aI 8 7,aK 9 .lss 6 8]) <|
  .cond (.tmp 9) (.skip) (.exit 0)) <|
  .seq (.block 1 (.seq (av [aa 12 0,aa 13 5,aX 14 1 12 13,ao 15 14,aa 16 1,((some 17),.op (.fO .eql (.tmp 15) (.tmp 16)))]) <|
  .cond (.tmp 17) (.seq (av [aP 4 true]) <|
  .ret) (.skip))) <|
  av [aa 10 5,ax 11 .add 10 1,aa 5 11]
def mR:DF:=⟨.seq (av [aP 4 false]) <|
  .seq (.seq (av [aG 5 0]) <|
  .block 0 (.loop sy)) <|
  .seq (av [aP 4 false]) <|
  .ret,
  [.tmp 4],18⟩
theorem qR:bm Tryz.prog 169 []=some mR:=by kernel_rfl
def mF:DC :=
  .seq (.seq (.region [] [⟨none,[aa 6 4,aa 7 1,aI 8 7,aK 9 .lss 6 8,aa 10 9]⟩,⟨(some (10,true)),[aa 11 0,bh 12 11,aq 13 10 12,ao 14 13,ax 15 .eql 14 0]⟩,⟨none,[bk 16 10 15]⟩]) <|
  .cond (.tmp 16) (.skip) (.exit 0)) <|
  .seq (.block 1 (.seq (.region [] [⟨none,[aa 19 1,aa 20 4,aX 21 5 19 20,aq 22 0 21,aO 23 2 22,((some 5),.op (.alloc [(.val (.string ⟨#[]⟩)),(.val (.complex .f64 0 0))])),(none,.op (.store 2 (.tmp 5) (.tmp 23)))]⟩]) <|
  .block 2 (.seq (av [aq 38 0 5,ao 39 38,aF 40 116 [39],bQ 41 40,aa 37 41]) <|
  .cond (.tmp 37) (av [aa 42 0,aO 43 2 5,bT 44 96 [(.tmp 42),(.tmp 43),(.val (.val (.int .i64 3)))]]) (.seq (av [aa 46 0,bh 47 46,aq 48 0 47,aO 49 4 48,aq 50 0 5,ao 51 50,aF 52 114 [49,51],ax 53 .geq 52 0,aa 45 53]) <|
  .cond (.tmp 45) (av [aa 54 0,aO 55 2 5,bT 56 96 [(.tmp 54),(.tmp 55),(.val (.val (.int .i64 7)))]]) (.seq (av [aa 58 0,bh 59 58,aq 60 0 59,aO 61 4 60,aq 62 0 5,ao 63 62,aF 64 95 [61,63],ax 65 .geq 64 0,aa 57 65]) <|
  .cond (.tmp 57) (.skip) (.seq (av [aa 67 0,bh 68 67,aq 69 0 68,aq 70 1 69,ao 71 70,aI 72 71,ax 73 .eql 72 16,aa 66 73]) <|
  .cond (.tmp 66) (av [aa 74 0,aO 75 2 5,bT 76 96 [(.tmp 74),(.tmp 75),(.val (.val (.int .i64 5)))]]) (.region [] [⟨none,[aa 24 0,aa 25 0,bh 26 25,aq 27 0 26,aq 28 1 27,ao 29 28,aq 30 0 5,ao 31 30,((some 32),.op (.bu 1 1 [(.val (.string ⟨#[]⟩))] [(0,(.tmp 31))])),((some 33),.op (.app 1 16 (.tmp 29) (.tmp 32))),bh 34 24,aq 35 0 34,aq 36 1 35,(none,.op (.store 1 (.tmp 36) (.tmp 33)))]⟩]))))))) <|
  av [aa 17 4,ax 18 .add 17 1,aa 4 18]
def gF:DF:=⟨.seq (av [aG 4 0]) <|
  .block 0 (.loop mF),
  [],77⟩
theorem lG:bm Tryz.prog 93 []=some gF:=by kernel_rfl
def xG:List (FuncId × DF):=[(33,lB),(51,kF),(90,jT),(131,lC),(159,mN),(160,mb),(161,lL),(162,jU),(178,jI),(132,nO),(163,nM),(133,mP),(149,ky),(148,km),(147,jt),(164,jf),(165,jc),(166,mf),(91,nQ),(137,fM),(136,fy),(167,fY),(168,hX),(135,fW),(138,fX),(134,fB),(52,kE),(94,hO),(113,ks),(116,l9),(96,hE),(140,fT),(95,mO),(114,lF),(170,fh),(92,gm),(139,fC),(169,mR),(93,gF)]
theorem Dl:rI Tryz.prog xG:=by
  intro p hp
  simp only[xG,List.mem_cons,List.not_mem_nil,or_false] at hp
  rcases hp with rfl | rfl | rfl | rfl | rfl | rfl | rfl | rfl | rfl | rfl | rfl | rfl | rfl | rfl | rfl | rfl | rfl | rfl | rfl | rfl | rfl | rfl | rfl | rfl | rfl | rfl | rfl | rfl | rfl | rfl | rfl | rfl | rfl | rfl | rfl | rfl | rfl | rfl | rfl
  · exact ⟨_,qh⟩
  · exact ⟨_,oS⟩
  · exact ⟨_,nZ⟩
  · exact ⟨_,qA⟩
  · exact ⟨_,qG⟩
  · exact ⟨_,qn⟩
  · exact ⟨_,pJ⟩
  · exact ⟨_,og⟩
  · exact ⟨_,nY⟩
  · exact ⟨_,sx⟩
  · exact ⟨_,sB⟩
  · exact ⟨_,q0⟩
  · exact ⟨_,po⟩
  · exact ⟨_,pq⟩
  · exact ⟨_,nR⟩
  · exact ⟨_,nH⟩
  · exact ⟨_,nG⟩
  · exact ⟨_,qm⟩
  · exact ⟨_,sA⟩
  · exact ⟨_,kG⟩
  · exact ⟨_,kg⟩
  · exact ⟨_,kX⟩
  · exact ⟨_,mH⟩
  · exact ⟨_,k5⟩
  · exact ⟨_,kN⟩
  · exact ⟨_,kh⟩
  · exact ⟨_,pB⟩
  · exact ⟨_,mC⟩
  · exact ⟨_,pf⟩
  · exact ⟨_,qd⟩
  · exact ⟨_,mo⟩
  · exact ⟨_,kO⟩
  · exact ⟨_,ri⟩
  · exact ⟨_,qb⟩
  · exact ⟨_,jK⟩
  · exact ⟨_,l0⟩
  · exact ⟨_,ki⟩
  · exact ⟨_,qR⟩
  · exact ⟨_,lG⟩
def tc (l:List Int):V:=.aY (l.map fun x=>[gy x])
theorem E3 (l:List Int):Tree (tc l):=fq _ _ fun x _ v hv=>by simp at hv; subst hv; exact .val _
def ja (g:au):V:=.bp [.agg (ar g),.val (.complex .f64 0 0),gi 0]
theorem B8 {l:List Int} {g:au} (h:pO Tryz.prog xG (fun _ _=>none) 33 [tc l]=some (ja g)):cG Tryz.prog 33 [tc l] (ja g) :=
  rf mixed Dl (Dm _) (by intro v hv; simp at hv; subst hv; exact E3 _) h
end Gv
set_option linter.unusedSimpArgs false
namespace Gv
open Go
abbrev cp (κ:Type):=List (κ × V × Nat)
def dJ {κ:Type} (key:κ→Value) (m:cp κ):List (V × V × Nat):=m.map fun x=>(.val (key x.1),x.2.1,x.2.2)
def getM {κ:Type} [BEq κ] (m:cp κ) (k:κ):Option V:=(m.find? fun x=>k == x.1).map (·.2.1)
def bE {κ:Type} [BEq κ] (k:κ) (v:V) (c:Nat):cp κ→cp κ
  | []=>[(k,v,c)]
  | x :: r=>if k == x.1 then (k,v,x.2.2) :: r else x :: bE k v c r
structure zG {κ:Type} [BEq κ] (P:Program) (kt:TypeId) (key:κ→Value):Prop where
  ty:∃ d,P.underlying kt=some d∧(∀ a b,Instr.sameNow d (key a) (key b)=some (a == b))∧(∀ a e,aW P (Instr.checkKey e 10000 kt (key a))=some ())
  bits:∀ a b,(a == b)=true→Instr.sameBits 10000 (key b) (key a)=true
theorem pL {κ:Type} (key:κ→Value):∀ m:cp κ,dZ (dJ key m)=some (m.map fun x=>{ key:=key x.1,val:=.nilFunc,born:=x.2.2 })
  | []=>rfl
  | x :: r=>by
    have:=pL key r
    simp only[dJ] at this
    simp[dJ,dZ,bN,this]
def dQ {κ:Type} [BEq κ] (k:κ):cp κ→Option Nat
  | []=>none
  | x :: r=>if k == x.1 then some 0 else (dQ k r).map (·+1)
theorem uo {κ:Type} [BEq κ] {key:κ→Value} {d:TypeDesc} (h:∀ a b,Instr.sameNow d (key a) (key b)=some (a == b)) (k:κ):∀ (m:cp κ) (i:Nat),
    Instr.findNow d (key k) (m.map fun x=>{ key:=key x.1,val:=.nilFunc,born:=x.2.2 }) i=some ((dQ k m).map fun j=>(i+j,.nilFunc))
  | [],i=>rfl
  | x :: r,i=>by
    simp only[List.map_cons,Instr.findNow,h,dQ]
    cases hk:k == x.1 with
    | true=>simp
    | false =>
      simp only[uo h k r (i+1),Bool.false_eq_true,if_false,Option.map_map]
      congr 2
      funext j
      simp only[Function.comp]
      congr 1
      omega
theorem x6 {κ:Type} [BEq κ] {P:Program} {kt:TypeId} {key:κ→Value} (h:zG P kt key) (k:κ) (e:Bool) (m:cp κ):iG P kt (.val (key k)) e (dJ key m)=some (dQ k m):=by
  obtain ⟨d,hd,hn,hc⟩:=h.ty
  have hu:aW P (underlying kt)=some d:=cq hd
  simp only[iG,bN,pL,aQ,hc,Option.bind_some]
  have:aW P (Instr.findKey kt (key k) (m.map fun x=>{ key:=key x.1,val:=.nilFunc,born:=x.2.2 }))=some ((dQ k m).map fun j=>(0+j,.nilFunc)):=by
    unfold Instr.findKey
    rw[aQ,hu,Option.bind_some,uo hn]
    rfl
  rw[this]
  cases dQ k m with
  | none=>rfl
  | some j=>simp
theorem vV {P:Program} {kt:TypeId} {d:TypeDesc} (h:P.underlying kt=some d) (hd:match d with | .int _ | .string | .bool=>True | _=>False) (e:Bool) (n:Nat) (v:Value):aW P (Instr.checkKey e (n+1) kt v)=some ():=by
  unfold Instr.checkKey
  rw[aQ,cq h,Option.bind_some]
  cases d <;> first | exact hd.elim | rfl
theorem Ah {P:Program} {kt:TypeId} (k:IntKind) (h:P.underlying kt=some (.int k)):zG P kt (Value.int k) where
  ty:=⟨_,h,fun a b=>by simp[Instr.sameNow],fun a e=>vV h trivial e 9999 _⟩
  bits:=fun a b hab=>by
    have:a=b:=by simpa using hab
    subst this
    simp[Instr.sameBits]
theorem uX {κ:Type} [BEq κ] {key:κ→Value} (k:κ):∀ m:cp κ,match dQ k m with
    | some i=>∃ x,m[i]?=some x∧(k == x.1)=true∧getM m k=some x.2.1∧(dJ key m)[i]?=some (.val (key x.1),x.2.1,x.2.2)∧∀ v c,(dJ key m).set i (.val (key k),v,x.2.2)=dJ key (bE k v c m)∧(bE k v c m).length=m.length
    | none=>getM m k=none∧∀ v c,dJ key m ++ [(.val (key k),v,c)]=dJ key (bE k v c m)∧(bE k v c m).length=m.length+1
  | []=>⟨rfl,fun v c=>⟨rfl,rfl⟩⟩
  | x :: r=>by
    have ih:=uX (key:=key) k r
    simp only[dQ]
    cases hk:k == x.1 with
    | true=>exact ⟨x,rfl,hk,by simp[getM,hk],rfl,fun v c=>by simp[bE,hk,dJ]⟩
    | false =>
      simp only[Bool.false_eq_true,if_false]
      cases hi:dQ k r with
      | some i =>
        rw[hi] at ih
        obtain ⟨y,h1,h2,h3,h4,h5⟩:=ih
        refine ⟨y,by simpa using h1,h2,by simpa [getM,hk] using h3,by simpa [dJ] using h4,fun v c=>?_⟩
        obtain ⟨g1,g2⟩:=h5 v c
        exact ⟨by simp only[dJ] at g1 ⊢; simp[bE,hk,g1],by simp[bE,hk,g2]⟩
      | none =>
        rw[hi] at ih
        refine ⟨by simpa [getM,hk] using ih.1,fun v c=>?_⟩
        obtain ⟨g1,g2⟩:=ih.2 v c
        exact ⟨by simp only[dJ] at g1 ⊢; simp[bE,hk,g1],by simp[bE,hk,g2]⟩
section
variable {P:Program} {T:Env} {H:View} {κ:Type} [BEq κ] {key:κ→Value} {kt et t ty:TypeId}
theorem Jv {K:V→View→Prop} {w:bP (T,H,K)} {x i:Operand} {z:V} {id c:Nat} {m:cp κ} {k:κ} (hm:cL P t=some (kt,et)) (hz:zeroV P et=some z) (hk:zG P kt key)
    (hx:ev T x=.mp id) (hi:ev T i=.val (key k)) (hH:H id=.map (dJ key m) c) (h:K ((getM m k).getD z) H):mW P (.lookup t x i false) ty T H K w:=by
  intro n _
  have hf:=x6 hk k (dJ key m).isEmpty m
  have hg:=uX (key:=key) k m
  refine ⟨(getM m k).getD z,.none,[id],?_,h⟩
  simp only[sI,bz,oper,dc,hm,hz,hx,hi,hH,hf]
  cases hj:dQ k m with
  | some j =>
    rw[hj] at hg
    obtain ⟨y,h1,h2,h3,h4,_⟩:=hg
    simp[h4,h3]
  | none =>
    rw[hj] at hg
    simp[hg.1]
theorem Hq (hk:zG P kt key) (k k':κ) (h:(k == k')=true):sameKey (.val (key k')) (.val (key k))=true:=by
  simp only[sameKey,bN]; exact hk.bits _ _ h
theorem D6 {K:V→View→Prop} {w:bP (T,H,K)} {x i y:Operand} {id c:Nat} {m:cp κ} {k:κ} {v:V} (hm:cL P t=some (kt,et)) (hk:zG P kt key)
    (hx:ev T x=.mp id) (hi:ev T i=.val (key k)) (hy:ev T y=v) (hH:H id=.map (dJ key m) c)
    (h:∀ c',K .any (H.set id (.map (dJ key (bE k v c m)) c'))):mW P (.mapUpdate t x i y) ty T H K w:=by
  intro n _
  have hf:=x6 hk k false m
  have hg:=uX (key:=key) k m
  cases hj:dQ k m with
  | some j =>
    rw[hj] at hg hf
    obtain ⟨z,h1,h2,h3,h4,h5⟩:=hg
    refine ⟨.any,.dw id (.map ((dJ key m).set j (.val (key k),v,z.2.2)) c),[id],?_,?_⟩
    · simp only[sI,bz,oper,fu,hm,hx,hi,hy,hH,hf,h4,Hq hk k z.1 h2,if_true]
    · rw[(h5 v c).1]; exact h c
  | none =>
    rw[hj] at hg hf
    refine ⟨.any,.dw id (.map (dJ key m ++ [(.val (key k),v,c)]) (c+1)),[id],?_,?_⟩
    · simp only[sI,bz,oper,fu,hm,hx,hi,hy,hH,hf]
    · rw[(hg.2 v c).1]; exact h (c+1)
omit [BEq κ] in
theorem IT {K:V→View→Prop} {w:bP (T,H,K)} {x:Operand} {id c:Nat} {m:cp κ} (hm:cL P t=some (kt,et)) (hx:ev T x=.mp id) (hH:H id=.map (dJ key m) c) (h:K (ak m.length) H) :
    mW P (.call { callee:=.builtin .len,args:=#[x],argTypes:=#[t] }) ty T H K w:=by
  intro n _
  have hu:∃ a b,P.underlying t=some (.map a b):=by
    unfold cL at hm
    split at hm
    · rename_i a b h1; exact ⟨a,b,h1⟩
    · simp at hm
  obtain ⟨a,b,hu⟩:=hu
  refine ⟨ak m.length,.none,[id],?_,h⟩
  have hl:(dJ key m).length=m.length:=by simp[dJ]
  simp only[sI,bz,oper,List.size_toArray,List.length_cons,List.length_nil,pz,hu,hx,hH,hl]
  simp[hu,hx,hH,hl,pz]
end
theorem nT {κ:Type} [BEq κ] [LawfulBEq κ] (k k':κ) (v:V) (c:Nat):∀ m:cp κ,getM (bE k v c m) k'=if k' == k then some v else getM m k'
  | []=>by
    by_cases h:k'=k
    · subst h; simp[bE,getM]
    · simp[bE,getM,h]
  | x :: r=>by
    have ih:=nT k k' v c r
    simp only[bE]
    by_cases hk:k=x.1
    · by_cases h:k'=k
      · subst h; simp[hk,getM]
      · have:¬ k'=x.1:=fun e=>h (e.trans hk.symm)
        simp[hk,getM,this]
    · simp only[beq_iff_eq,hk,if_false]
      by_cases h:k'=x.1
      · have:¬ k'=k:=fun e=>hk (e.symm.trans h)
        simp[getM,h]
        subst h
        simp[this]
      · simp only[getM,List.find?_cons,beq_eq_false_iff_ne.2 h] at ih ⊢
        exact ih
def c9 {κ β:Type} [BEq κ] (a:List (κ × β)) (k:κ):Option β:=(a.find? fun x=>k == x.1).map (·.2)
def ia {κ β:Type} [BEq κ] (k:κ) (v:β):List (κ × β)→List (κ × β)
  | []=>[(k,v)]
  | x :: r=>if k == x.1 then (k,v) :: r else x :: ia k v r
def kH {κ β:Type} (encV:β→V):List (κ × β)→cp κ→Prop
  | [],[]=>True
  | x :: a,y :: m=>y.1=x.1∧y.2.1=encV x.2∧kH encV a m
  | _,_=>False
theorem kH.get {κ β:Type} [BEq κ] {encV:β→V} (k:κ):∀ {a:List (κ × β)} {m:cp κ},kH encV a m→getM m k=(c9 a k).map encV
  | [],[],_=>rfl
  | x :: a,y :: m,⟨h1,h2,h3⟩=>by
    have ih:=kH.get k h3
    simp only[getM,c9,List.find?_cons,h1] at ih ⊢
    cases k == x.1 with
    | true=>simp[h2]
    | false=>simpa using ih
theorem kH.put {κ β:Type} [BEq κ] {encV:β→V} (k:κ) (v:β) (c:Nat):∀ {a:List (κ × β)} {m:cp κ},kH encV a m→kH encV (ia k v a) (bE k (encV v) c m)
  | [],[],_=>⟨rfl,rfl,trivial⟩
  | x :: a,y :: m,⟨h1,h2,h3⟩=>by
    have ih:=kH.put k v c h3
    simp only[ia,bE,h1]
    cases k == x.1 with
    | true=>exact ⟨rfl,rfl,h3⟩
    | false=>exact ⟨h1,h2,ih⟩
theorem kH.len {κ β:Type} {encV:β→V} : ∀ {a:List (κ × β)} {m:cp κ},kH encV a m→m.length=a.length
  | [],[],_=>rfl
  | x :: a,y :: m,⟨_,_,h3⟩=>by simp[kH.len h3]
theorem zy {κ β:Type} [BEq κ] [LawfulBEq κ] (k k':κ) (v:β):∀ a:List (κ × β),c9 (ia k v a) k'=if k' == k then some v else c9 a k'
  | []=>by
    by_cases h:k'=k
    · subst h; simp[ia,c9]
    · simp[ia,c9,h]
  | x :: r=>by
    have ih:=zy k k' v r
    simp only[ia]
    by_cases hk:k=x.1
    · by_cases h:k'=k
      · subst h; simp[hk,c9]
      · have:¬ k'=x.1:=fun e=>h (e.trans hk.symm)
        simp[hk,c9,this]
    · simp only[beq_iff_eq,hk,if_false]
      by_cases h:k'=x.1
      · have:¬ k'=k:=fun e=>hk (e.symm.trans h)
        simp[c9,h]
        subst h
        simp[this]
      · simp only[c9,List.find?_cons,beq_eq_false_iff_ne.2 h] at ih ⊢
        exact ih
def BM (n k:Nat) (J:Nat→Env→View→Prop) (T:Env) (H:View):Prop:=∃ i,i+k=n∧J i T H
theorem bo.up {P:Program} {T:Env} {H:View} {c:SC} {Q:Exit→Env→View→Prop} {v:bP (T,H,Q)} (n:Nat) (J:Nat→Env→View→Prop) (h0:J 0 T H)
    (hs:∀ i k T H,i+k=n→J i T H→wS P c T H fun e T' H'=>vI e (∃ k',k' < k∧BM n k' J T' H') (Q e T' H')):bo P c T H Q v :=
  bo.intro (fun k T H=>BM n k J T H) n ⟨0,by omega,h0⟩ fun k T H ⟨i,hk,hj⟩=>hs i k T H hk hj
theorem bb {n i k:Nat} {J:Nat→Env→View→Prop} {T:Env} {H:View} (hk:i+k=n) (hlt:i < n) (hJ:J (i+1) T H):∃ k',k' < k∧BM n k' J T H:=⟨k - 1,by omega,i+1,by omega,hJ⟩
end Gv
