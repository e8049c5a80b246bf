/-
  Part 8 of the proof: what the machine does and what the functions answer.
  Conditions: those that each lemma names.
-/
import Derived.Test.YtomcjampldmjoaaGreatSGzUG
set_option linter.unusedSimpArgs false
set_option linter.unusedVariables false
set_option linter.unusedSimpArgs false
set_option maxRecDepth 100000
namespace Gv
open Go Go.Proofs
def m3:DF:=⟨.seq (au [((some 2),.op (.alloc [(.emp 1),(.emp 1),(.emp 1),(.val (.int .i64 0))])),((some 3),.op (.bd (.val (.val (.complex .f64 0 0))))),aI 4 0]) <|
  .seq (au [aa 9 0,aK 10 70 [9],aa 8 10,b6 11 0 8,b6 12 1 8,b6 13 2 8,((some 5),.op (.alloc [(.emp 1),(.emp 1)])),(none,.op (.store 2 (.tmp 5) (.tmp 11))),aa 6 12,aa 7 13]) <|
  .seq (.seq (au [aa 14 7,aA 15 .neq 14 0]) <|
  .cond (.tmp 15) (.seq (au [((some 16),.op (.build [(.emp 1),(.emp 1),(.emp 1),(.val (.int .i64 0))] [])),aa 17 6,aa 18 7,(none,.op (.store 4 (.tmp 2) (.tmp 16))),aa 3 17,aa 4 18]) <|
  .ret) (.skip)) <|
  .seq (au [aZ 19 2 5,aK 20 71 [19],b6 21 0 20,b6 22 1 20,b6 23 2 20,(none,.op (.store 4 (.tmp 2) (.tmp 21))),aa 3 22,aa 4 23]) <|
  .ret,
  [.cell 2 (some 4),.tmp 3,.tmp 4],24⟩
theorem qU:bt Tryz.prog 41 []=some m3:=by kernel_rfl
def lD:DF:=⟨.seq (au [((some 2),.op (.alloc [(.emp 1),(.emp 1)])),((some 3),.op (.bd (.val (.val (.complex .f64 0 0))))),aI 4 0]) <|
  .seq (au [aa 9 0,aK 10 120 [9],aa 8 10,b6 11 0 8,b6 12 1 8,b6 13 2 8,aa 5 11,aa 6 12,aa 7 13]) <|
  .seq (.seq (au [aa 14 7,aA 15 .neq 14 0]) <|
  .cond (.tmp 15) (.seq (au [((some 16),.op (.build [(.emp 1),(.emp 1)] [])),aa 17 6,aa 18 7,(none,.op (.store 2 (.tmp 2) (.tmp 16))),aa 3 17,aa 4 18]) <|
  .ret) (.skip)) <|
  .seq (au [aa 19 5,aa 20 6,aK 21 121 [19,20],b6 22 0 21,b6 23 1 21,b6 24 2 21,(none,.op (.store 2 (.tmp 2) (.tmp 22))),aa 3 23,aa 4 24]) <|
  .ret,
  [.cell 2 (some 2),.tmp 3,.tmp 4],25⟩
theorem qF:bt Tryz.prog 70 []=some lD:=by kernel_rfl
def qd:DC :=
  .seq (.seq (.region [] [⟨none,[aa 16 6,aa 17 0,aQ 18 17,aS 19 .lss 16 18,aa 20 19]⟩,⟨(some (20,true)),[aa 21 7,aA 22 .lss 21 2]⟩,⟨none,[bI 23 20 22]⟩]) <|
  .cond (.tmp 23) (.skip) (.exit 0)) <|
  .block 1 (.seq (au [aa 25 0,aa 26 6,aK 27 176 [25,26],aa 24 27,b6 28 0 24,b6 29 1 24,aa 8 28,aa 9 29]) <|
  .seq (.seq (au [aa 30 8,aA 31 .lss 30 0]) <|
  .cond (.tmp 31) (.seq (au [aa 32 0,aa 33 6,aK 34 177 [32,33],((some 2),.op (.bd (.val (.emp 1)))),aa 3 34,aI 4 4]) <|
  .ret) (.skip)) <|
  .seq (.seq (au [aa 35 9]) <|
  .cond (.tmp 35) (.seq (au [aa 36 8,aa 6 36]) <|
  .exit 1) (.skip)) <|
  .seq (.region [] [⟨none,[aa 38 0,aa 39 6,aK 40 178 [38,39],aa 37 40,b6 41 0 37,b6 42 1 37,b6 43 2 37,((some 10),.op (.alloc [(.val (.int .i64 0)),(.val (.string ⟨#[]⟩)),(.val (.complex .f64 0 0))])),(none,.op (.store 3 (.tmp 10) (.tmp 41))),aa 11 42,aa 12 43]⟩]) <|
  .seq (.seq (au [aa 44 12,aA 45 .neq 44 0]) <|
  .cond (.tmp 45) (.seq (au [ao 46 2 10,aq 47 46,aa 48 12,((some 2),.op (.bd (.val (.emp 1)))),aa 3 47,aa 4 48]) <|
  .ret) (.skip)) <|
  .seq (.seq (au [ao 49 0 10,aq 50 49,aA 51 .eql 50 9]) <|
  .cond (.tmp 51) (au [aa 52 7,aA 53 .add 52 1,aa 7 53]) (.skip)) <|
  .region [] [⟨none,[aa 54 5,aZ 55 3 10,((some 56),.op (.bE 1 3 [(.val (.int .i64 0)),(.val (.string ⟨#[]⟩)),(.val (.complex .f64 0 0))] [(0,(.tmp 55))])),((some 57),.op (.app 3 40 (.tmp 54) (.tmp 56))),aa 58 11,aa 5 57,aa 6 58]⟩])
def kW:DF:=⟨.seq (au [((some 2),.op (.bd (.val (.emp 1)))),((some 3),.op (.bd (.val (.val (.complex .f64 0 0))))),aI 4 0]) <|
  .seq (.seq (au [aa 13 0,aQ 14 13,aA 15 .gtr 14 4000]) <|
  .cond (.tmp 15) (.seq (au [((some 2),.op (.bd (.val (.emp 1)))),((some 3),.op (.bd (.val (.val (.complex .f64 0 0))))),aI 4 5]) <|
  .ret) (.skip)) <|
  .seq (au [((some 5),.op (.bd (.val (.emp 1))))]) <|
  .seq (au [aI 6 0,aI 7 0]) <|
  .seq (.block 0 (.loop qd)) <|
  .seq (au [aa 59 5,aa 60 0,aa 61 0,aQ 62 61,aK 63 177 [60,62],aa 2 59,aa 3 63,aI 4 0]) <|
  .ret,
  [.tmp 2,.tmp 3,.tmp 4],64⟩
theorem pc:bt Tryz.prog 120 []=some kW:=by kernel_rfl
def np:DF:=⟨.seq (au [aI 4 0,aW 5 false]) <|
  .seq (.block 0 (.seq (.region [] [⟨none,[aa 7 0,aa 8 1,bo 9 1 7 8,aq 10 9,((some 11),.op (.arith .eql (.tmp 10) (.val (.val (.int .u8 32))))),aa 12 11]⟩,⟨(some (12,false)),[aa 13 0,aa 14 1,bo 15 1 13 14,aq 16 15,((some 17),.op (.arith .eql (.tmp 16) (.val (.val (.int .u8 9)))))]⟩,⟨none,[bC 18 12 17,aa 19 18]⟩,⟨(some (19,false)),[aa 20 0,aa 21 1,bo 22 1 20 21,aq 23 22,((some 24),.op (.arith .eql (.tmp 23) (.val (.val (.int .u8 10)))))]⟩,⟨none,[bC 25 19 24,aa 26 25]⟩,⟨(some (26,false)),[aa 27 0,aa 28 1,bo 29 1 27 28,aq 30 29,((some 31),.op (.arith .eql (.tmp 30) (.val (.val (.int .u8 13)))))]⟩,⟨none,[bC 32 26 31,aa 6 32]⟩]) <|
  .cond (.tmp 6) (.seq (au [aa 33 1,aA 34 .add 33 1,aa 4 34,aW 5 true]) <|
  .ret) (.seq (.region [] [⟨none,[aa 36 0,aa 37 1,cH 38 215 [(.tmp 36),(.tmp 37),(.val (.val (.string ⟨#[47,42]⟩)))],aa 35 38]⟩]) <|
  .cond (.tmp 35) (.seq (.region [] [⟨none,[aa 39 0,aa 40 1,aA 41 .add 40 2,cH 42 216 [(.tmp 39),(.tmp 41),(.val (.val (.string ⟨#[42,47]⟩)))],aa 4 42,aW 5 true]⟩]) <|
  .ret) (.seq (.region [] [⟨none,[aa 44 0,aa 45 1,cH 46 215 [(.tmp 44),(.tmp 45),(.val (.val (.string ⟨#[47,47]⟩)))],aa 43 46]⟩]) <|
  .cond (.tmp 43) (.seq (au [aa 47 0,aa 48 1,aK 49 217 [47,48],aa 4 49,aW 5 true]) <|
  .ret) (.seq (.region [] [⟨none,[aa 51 0,aa 52 1,cH 53 215 [(.tmp 51),(.tmp 52),(.val (.val (.string ⟨#[37,123]⟩)))],aa 50 53]⟩]) <|
  .cond (.tmp 50) (.seq (.region [] [⟨none,[aa 54 0,aa 55 1,aA 56 .add 55 2,cH 57 216 [(.tmp 54),(.tmp 56),(.val (.val (.string ⟨#[37,125]⟩)))],aa 4 57,aW 5 true]⟩]) <|
  .ret) (.seq (au [aa 59 0,aa 60 1,bo 61 1 59 60,aq 62 61,((some 63),.op (.arith .eql (.tmp 62) (.val (.val (.int .u8 60))))),aa 58 63]) <|
  .cond (.tmp 58) (.seq (.region [] [⟨none,[aa 64 0,aa 65 0,aa 66 1,aK 67 217 [65,66],((some 68),.op (.slice 1 (.tmp 64) none (some (.tmp 67)))),aa 69 1,aA 70 .add 69 1,cH 71 216 [(.tmp 68),(.tmp 70),(.val (.val (.string ⟨#[62]⟩)))],aa 4 71,aW 5 true]⟩]) <|
  .ret) (.seq (au [aa 73 0,aa 74 1,bo 75 1 73 74,aq 76 75,((some 77),.op (.arith .eql (.tmp 76) (.val (.val (.int .u8 123))))),aa 72 77]) <|
  .cond (.tmp 72) (.seq (au [aa 78 0,aa 79 1,aK 80 218 [78,79],aa 4 80,aW 5 true]) <|
  .ret) (.skip)))))))) <|
  .seq (au [aa 81 1,aa 4 81,aW 5 false]) <|
  .ret,
  [.tmp 4,.tmp 5],82⟩
theorem rl:bt Tryz.prog 176 []=some np:=by kernel_rfl
def nP:DF:=⟨.seq (au [aW 6 false]) <|
  .seq (.region [] [⟨none,[aa 7 1,aa 8 2,((some 9),.op (.fM (.tmp 8))),aS 10 .add 7 9,aa 11 0,aQ 12 11,aS 13 .leq 10 12,aa 14 13]⟩,⟨(some (14,true)),[aa 15 0,aa 16 1,aa 17 1,aa 18 2,((some 19),.op (.fM (.tmp 18))),aS 20 .add 17 19,((some 21),.op (.slice 1 (.tmp 15) (some (.tmp 16)) (some (.tmp 20)))),((some 22),.op (.old (.convert 73 9 (.tmp 21)) 9)),aa 23 2,((some 24),.op (.ia .eql (.tmp 22) (.tmp 23)))]⟩,⟨none,[bI 25 14 24,aa 6 25]⟩]) <|
  .ret,
  [.tmp 6],26⟩
theorem su:bt Tryz.prog 215 []=some nP:=by kernel_rfl
def rT:DC :=
  .seq (.seq (au [aa 7 1,aa 8 0,aQ 9 8,aS 10 .lss 7 9]) <|
  .cond (.tmp 10) (.skip) (.exit 0)) <|
  .block 1 (.seq (.seq (au [aa 11 0,aa 12 1,aa 13 2,aK 14 215 [11,12,13]]) <|
  .cond (.tmp 14) (.seq (au [aa 15 1,aa 16 2,((some 17),.op (.fM (.tmp 16))),aS 18 .add 15 17,aa 6 18]) <|
  .ret) (.skip)) <|
  au [aa 19 1,aA 20 .add 19 1,aa 1 20])
def mZ:DF:=⟨.seq (au [aI 6 0]) <|
  .seq (.block 0 (.loop rT)) <|
  .seq (au [aI 6 (-1)]) <|
  .ret,
  [.tmp 6],21⟩
theorem rJ:bt Tryz.prog 216 []=some mZ:=by kernel_rfl
def sq:DC :=
  .seq (.seq (.region [] [⟨none,[aa 5 1,aa 6 0,aQ 7 6,aS 8 .lss 5 7,aa 9 8]⟩,⟨(some (9,true)),[aa 10 0,aa 11 1,bo 12 1 10 11,aq 13 12,((some 14),.op (.arith .neq (.tmp 13) (.val (.val (.int .u8 10)))))]⟩,⟨none,[bI 15 9 14]⟩]) <|
  .cond (.tmp 15) (.skip) (.exit 0)) <|
  .block 1 (au [aa 16 1,aA 17 .add 16 1,aa 1 17])
def nd:DF:=⟨.seq (au [aI 4 0]) <|
  .seq (.block 0 (.loop sq)) <|
  .seq (au [aa 18 1,aa 4 18]) <|
  .ret,
  [.tmp 4],19⟩
theorem rA:bt Tryz.prog 217 []=some nd:=by kernel_rfl
def qv:DC :=
  .seq (.seq (.region [] [⟨none,[aa 6 1,aA 7 .geq 6 0,aa 8 7]⟩,⟨(some (8,true)),[aa 9 1,aa 10 0,aQ 11 10,aS 12 .lss 9 11]⟩,⟨none,[bI 13 8 12]⟩]) <|
  .cond (.tmp 13) (.skip) (.exit 0)) <|
  .block 1 (.seq (.seq (au [aa 14 0,aa 15 1,bo 16 1 14 15,aq 17 16]) <|
  .block 2 (.seq (au [((some 21),.op (.arith .eql (.tmp 17) (.val (.val (.int .u8 123))))),aa 20 21]) <|
  .cond (.tmp 20) (.seq (au [aa 22 5,aA 23 .add 22 1,aa 5 23]) <|
  au [aa 24 1,aA 25 .add 24 1,aa 1 25]) (.seq (au [((some 27),.op (.arith .eql (.tmp 17) (.val (.val (.int .u8 125))))),aa 26 27]) <|
  .cond (.tmp 26) (.seq (au [aa 28 5,aA 29 .sub 28 1,aa 5 29]) <|
  au [aa 30 1,aA 31 .add 30 1,aa 1 31]) (.seq (.seq (au [((some 33),.op (.arith .eql (.tmp 17) (.val (.val (.int .u8 39))))),aa 32 33]) <|
  .cond (.tmp 32) (.skip) (au [((some 34),.op (.arith .eql (.tmp 17) (.val (.val (.int .u8 34))))),aa 32 34])) <|
  .cond (.tmp 32) (au [aa 35 0,aa 36 1,aK 37 234 [35,36],aa 1 37]) (au [aa 18 1,aA 19 .add 18 1,aa 1 19]))))) <|
  .seq (.region [] [⟨none,[aa 38 5,aA 39 .eql 38 0,aa 40 39]⟩,⟨(some (40,true)),[aa 41 1,aA 42 .geq 41 0]⟩,⟨none,[bI 43 40 42]⟩]) <|
  .cond (.tmp 43) (.seq (au [aa 44 1,aa 4 44]) <|
  .ret) (.skip))
def kA:DF:=⟨.seq (au [aI 4 0]) <|
  .seq (au [aI 5 0]) <|
  .seq (.block 0 (.loop qv)) <|
  .seq (au [aI 4 (-1)]) <|
  .ret,
  [.tmp 4],45⟩
theorem ph:bt Tryz.prog 218 []=some kA:=by kernel_rfl
def qw:DC :=
  .seq (.seq (au [aa 12 1,aa 13 0,aQ 14 13,aS 15 .lss 12 14]) <|
  .cond (.tmp 15) (.skip) (.exit 0)) <|
  .block 1 (.seq (.seq (au [aa 16 0,aa 17 1,bo 18 1 16 17,aq 19 18,aa 20 5,aS 21 .eql 19 20]) <|
  .cond (.tmp 21) (.seq (au [aa 22 1,aA 23 .add 22 1,aa 4 23]) <|
  .ret) (.skip)) <|
  .seq (.seq (au [aa 24 0,aa 25 1,bo 26 1 24 25,aq 27 26,((some 28),.op (.arith .eql (.tmp 27) (.val (.val (.int .u8 92)))))]) <|
  .cond (.tmp 28) (au [aa 29 1,aA 30 .add 29 1,aa 1 30]) (.skip)) <|
  au [aa 31 1,aA 32 .add 31 1,aa 1 32])
def kS:DF:=⟨.seq (au [aI 4 0]) <|
  .seq (au [aa 6 0,aa 7 1,bo 8 1 6 7,aq 9 8,aa 5 9]) <|
  .seq (au [aa 10 1,aA 11 .add 10 1,aa 1 11]) <|
  .seq (.block 0 (.loop qw)) <|
  .seq (au [aI 4 (-1)]) <|
  .ret,
  [.tmp 4],33⟩
theorem pg:bt Tryz.prog 234 []=some kS:=by kernel_rfl
def uQ:DC :=
  .seq (.seq (au [aa 16 7,aa 17 1,aS 18 .lss 16 17]) <|
  .cond (.tmp 18) (.skip) (.exit 0)) <|
  .seq (.block 1 (.seq (au [aa 21 6,aA 22 .add 21 1,aa 6 22]) <|
  .seq (au [aa 23 0,aa 24 7,bo 25 1 23 24,aq 26 25,((some 27),.op (.arith .eql (.tmp 26) (.val (.val (.int .u8 10)))))]) <|
  .cond (.tmp 27) (au [aa 28 5,aA 29 .add 28 1,aa 5 29,aI 6 1]) (.skip))) <|
  au [aa 19 7,aA 20 .add 19 1,aa 7 20]
def pb:DF:=⟨.seq (au [((some 4),.op (.bd (.val (.val (.complex .f64 0 0)))))]) <|
  .seq (.seq (.region [] [⟨none,[aa 8 1,aA 9 .lss 8 0,aa 10 9]⟩,⟨(some (10,false)),[aa 11 1,aa 12 0,aQ 13 12,aS 14 .gtr 11 13]⟩,⟨none,[bC 15 10 14]⟩]) <|
  .cond (.tmp 15) (.seq (au [((some 4),.op (.bd (.val (.val (.complex .f64 0 0)))))]) <|
  .ret) (.skip)) <|
  .seq (au [aI 5 1,aI 6 1]) <|
  .seq (.seq (au [aI 7 0]) <|
  .block 0 (.loop uQ)) <|
  .seq (au [aa 30 5,aa 31 6,aK 32 219 [30,31],aa 4 32]) <|
  .ret,
  [.tmp 4],33⟩
theorem tn:bt Tryz.prog 177 []=some pb:=by kernel_rfl
def oC:DF:=⟨.seq (au [((some 4),.op (.bd (.val (.val (.complex .f64 0 0)))))]) <|
  .seq (.seq (.region [] [⟨none,[aa 5 0,aA 6 .lss 5 1,aa 7 6]⟩,⟨(some (7,false)),[aa 8 0,aA 9 .gtr 8 1073741824]⟩,⟨none,[bC 10 7 9,aa 11 10]⟩,⟨(some (11,false)),[aa 12 1,aA 13 .lss 12 1]⟩,⟨none,[bC 14 11 13,aa 15 14]⟩,⟨(some (15,false)),[aa 16 1,aA 17 .gtr 16 1073741824]⟩,⟨none,[bC 18 15 17]⟩]) <|
  .cond (.tmp 18) (.seq (au [((some 4),.op (.bd (.val (.val (.complex .f64 0 0)))))]) <|
  .ret) (.skip)) <|
  .seq (au [aa 19 0,((some 20),.op (.old (.convert 3 311 (.tmp 19)) 311)),aa 21 1,((some 22),.op (.old (.convert 3 311 (.tmp 21)) 311)),((some 23),.op (.old (.call { callee:=.builtin .complex,args:=#[(.tmp 20),(.tmp 22)],argTypes:=#[311,311] }) 70)),aa 4 23]) <|
  .ret,
  [.tmp 4],24⟩
theorem tq:bt Tryz.prog 219 []=some oC:=by kernel_rfl
def tl:DC :=
  .seq (.seq (.region [] [⟨none,[aa 27 9,aa 28 0,aQ 29 28,aS 30 .lss 27 29,aa 31 30]⟩,⟨(some (31,true)),[aa 32 0,aa 33 9,bo 34 1 32 33,aq 35 34,aK 36 193 [35]]⟩,⟨none,[bI 37 31 36]⟩]) <|
  .cond (.tmp 37) (.skip) (.exit 1)) <|
  .block 2 (au [aa 38 9,aA 39 .add 38 1,aa 9 39])
def tt:DC :=
  .seq (.seq (au [aa 58 10,aA 59 .leq 58 4]) <|
  .cond (.tmp 59) (.skip) (.exit 3)) <|
  .seq (.block 4 (.seq (.region [] [⟨none,[aa 62 1,aa 63 10,aS 64 .add 62 63,aa 65 0,aQ 66 65,aS 67 .leq 64 66,aa 68 67]⟩,⟨(some (68,true)),[aa 69 0,aa 70 1,aa 71 1,aa 72 10,aS 73 .add 71 72,((some 74),.op (.slice 1 (.tmp 69) (some (.tmp 70)) (some (.tmp 73)))),((some 75),.op (.old (.convert 73 9 (.tmp 74)) 9)),aK 76 191 [75]]⟩,⟨none,[bI 77 68 76]⟩]) <|
  .cond (.tmp 77) (.seq (.region [(6,8)] [⟨none,[aa 78 0,aa 79 1,aa 80 1,aa 81 10,aS 82 .add 80 81,((some 83),.op (.slice 1 (.tmp 78) (some (.tmp 79)) (some (.tmp 82)))),((some 84),.op (.old (.convert 73 9 (.tmp 83)) 9)),ao 85 0 7,(none,.op (.store 1 (.tmp 85) (.val (.val (.int .i64 2))))),ao 86 1 7,(none,.op (.store 1 (.tmp 86) (.tmp 84)))]⟩]) <|
  .seq (au [aZ 87 3 7,aa 88 1,aa 89 10,aS 90 .add 88 89,(none,.op (.store 3 (.tmp 4) (.tmp 87))),aa 5 90,aI 6 0]) <|
  .ret) (.skip))) <|
  au [aa 60 10,aA 61 .add 60 1,aa 10 61]
def tv:DC :=
  .seq (.seq (.region [] [⟨none,[aa 108 9,aa 109 0,aQ 110 109,aS 111 .lss 108 110,aa 112 111]⟩,⟨(some (112,true)),[aa 113 0,aa 114 9,bo 115 1 113 114,aq 116 115,((some 117),.op (.arith .geq (.tmp 116) (.val (.val (.int .u8 97)))))]⟩,⟨none,[bI 118 112 117,aa 119 118]⟩,⟨(some (119,true)),[aa 120 0,aa 121 9,bo 122 1 120 121,aq 123 122,((some 124),.op (.arith .leq (.tmp 123) (.val (.val (.int .u8 122)))))]⟩,⟨none,[bI 125 119 124]⟩]) <|
  .cond (.tmp 125) (.skip) (.exit 5)) <|
  .block 6 (au [aa 126 9,aA 127 .add 126 1,aa 9 127])
def nN:DF:=⟨.seq (.region [] [⟨none,[((some 4),.op (.alloc [(.val (.int .i64 0)),(.val (.string ⟨#[]⟩)),(.val (.complex .f64 0 0))])),aI 5 0,aI 6 0]⟩]) <|
  .seq (.region [] [⟨none,[aa 11 0,aa 12 1,aK 13 177 [11,12],((some 14),.op (.build [(.val (.int .i64 0)),(.val (.string ⟨#[]⟩)),(.val (.complex .f64 0 0))] [(2,1,(.tmp 13))])),((some 7),.op (.alloc [(.val (.int .i64 0)),(.val (.string ⟨#[]⟩)),(.val (.complex .f64 0 0))])),(none,.op (.store 3 (.tmp 7) (.tmp 14)))]⟩]) <|
  .seq (au [aa 15 0,aa 16 1,bo 17 1 15 16,aq 18 17,aa 8 18]) <|
  .seq (au [aa 19 1,aA 20 .add 19 1,aa 9 20]) <|
  .seq (.block 0 (.seq (au [aa 25 8,aK 26 192 [25],aa 24 26]) <|
  .cond (.tmp 24) (.seq (.block 1 (.loop tl)) <|
  .seq (.seq (au [aa 40 9,aa 41 1,aS 42 .sub 40 41,aA 43 .gtr 42 20]) <|
  .cond (.tmp 43) (.seq (au [aZ 44 3 7,aa 45 9,(none,.op (.store 3 (.tmp 4) (.tmp 44))),aa 5 45,aI 6 5]) <|
  .ret) (.skip)) <|
  .seq (.region [(4,6)] [⟨none,[aa 46 0,aa 47 1,aa 48 9,((some 49),.op (.slice 1 (.tmp 46) (some (.tmp 47)) (some (.tmp 48)))),((some 50),.op (.old (.convert 73 9 (.tmp 49)) 9)),ao 51 0 7,(none,.op (.store 1 (.tmp 51) (.val (.val (.int .i64 1))))),ao 52 1 7,(none,.op (.store 1 (.tmp 52) (.tmp 50)))]⟩]) <|
  .seq (au [aZ 53 3 7,aa 54 9,(none,.op (.store 3 (.tmp 4) (.tmp 53))),aa 5 54,aI 6 0]) <|
  .ret) (.seq (au [aa 56 8,((some 57),.op (.arith .eql (.tmp 56) (.val (.val (.int .u8 39))))),aa 55 57]) <|
  .cond (.tmp 55) (.seq (.seq (au [aI 10 3]) <|
  .block 3 (.loop tt)) <|
  .seq (.region [(0,5)] [⟨none,[aZ 91 3 7,aa 92 9,aa 93 0,aa 94 1,((some 95),.op (.slice 1 (.tmp 93) (some (.tmp 94)) none)),aK 96 220 [95],(none,.op (.store 3 (.tmp 4) (.tmp 91))),aa 5 92,aa 6 96]⟩]) <|
  .ret) (.seq (.region [] [⟨none,[aa 98 0,aa 99 1,cH 100 215 [(.tmp 98),(.tmp 99),(.val (.val (.string ⟨#[37,37]⟩)))],aa 97 100]⟩]) <|
  .cond (.tmp 97) (.seq (au [ao 101 0 7,(none,.op (.store 1 (.tmp 101) (.val (.val (.int .i64 9)))))]) <|
  .seq (au [aZ 102 3 7,aa 103 1,aA 104 .add 103 2,(none,.op (.store 3 (.tmp 4) (.tmp 102))),aa 5 104,aI 6 0]) <|
  .ret) (.seq (au [aa 106 8,((some 107),.op (.arith .eql (.tmp 106) (.val (.val (.int .u8 37))))),aa 105 107]) <|
  .cond (.tmp 105) (.seq (.block 5 (.loop tv)) <|
  au [aa 128 0,aa 129 1,aA 130 .add 129 1,aa 131 9,((some 132),.op (.slice 1 (.tmp 128) (some (.tmp 130)) (some (.tmp 131)))),((some 133),.op (.old (.convert 73 9 (.tmp 132)) 9)),aK 134 221 [133],ao 135 0 7,(none,.op (.store 1 (.tmp 135) (.tmp 134)))]) (au [aa 21 8,aK 22 222 [21],ao 23 0 7,(none,.op (.store 1 (.tmp 23) (.tmp 22)))])))))) <|
  .seq (.seq (au [ao 136 0 7,aq 137 136,aA 138 .eql 137 0]) <|
  .cond (.tmp 138) (.seq (au [aZ 139 3 7,aa 140 9,(none,.op (.store 3 (.tmp 4) (.tmp 139))),aa 5 140,aI 6 3]) <|
  .ret) (.skip)) <|
  .seq (au [aZ 141 3 7,aa 142 9,(none,.op (.store 3 (.tmp 4) (.tmp 141))),aa 5 142,aI 6 0]) <|
  .ret,
  [.cell 4 (some 3),.tmp 5,.tmp 6],143⟩
theorem sg:bt Tryz.prog 178 []=some nN:=by kernel_rfl
def lL:DF:=⟨.seq (au [aW 2 false]) <|
  .seq (.region [] [⟨none,[aa 3 0,aK 4 192 [3],aa 5 4]⟩,⟨(some (5,false)),[aa 6 0,((some 7),.op (.arith .geq (.tmp 6) (.val (.val (.int .u8 48))))),aa 8 7]⟩,⟨(some (8,true)),[aa 9 0,((some 10),.op (.arith .leq (.tmp 9) (.val (.val (.int .u8 57)))))]⟩,⟨(some (5,false)),[bI 11 8 10]⟩,⟨none,[bC 12 5 11,aa 13 12]⟩,⟨(some (13,false)),[aa 14 0,((some 15),.op (.arith .eql (.tmp 14) (.val (.val (.int .u8 46)))))]⟩,⟨none,[bC 16 13 15,aa 2 16]⟩]) <|
  .ret,
  [.tmp 2],17⟩
theorem qA:bt Tryz.prog 193 []=some lL:=by kernel_rfl
def lH:DF:=⟨.seq (au [aW 2 false]) <|
  .seq (.region [] [⟨none,[aa 3 0,((some 4),.op (.arith .geq (.tmp 3) (.val (.val (.int .u8 97))))),aa 5 4]⟩,⟨(some (5,true)),[aa 6 0,((some 7),.op (.arith .leq (.tmp 6) (.val (.val (.int .u8 122)))))]⟩,⟨none,[bI 8 5 7,aa 9 8]⟩,⟨(some (9,false)),[aa 10 0,((some 11),.op (.arith .geq (.tmp 10) (.val (.val (.int .u8 65))))),aa 12 11]⟩,⟨(some (12,true)),[aa 13 0,((some 14),.op (.arith .leq (.tmp 13) (.val (.val (.int .u8 90)))))]⟩,⟨(some (9,false)),[bI 15 12 14]⟩,⟨none,[bC 16 9 15,aa 17 16]⟩,⟨(some (17,false)),[aa 18 0,((some 19),.op (.arith .eql (.tmp 18) (.val (.val (.int .u8 95)))))]⟩,⟨none,[bC 20 17 19,aa 2 20]⟩]) <|
  .ret,
  [.tmp 2],21⟩
theorem qa:bt Tryz.prog 192 []=some lH:=by kernel_rfl
def kq:DF:=⟨.seq (au [aW 2 false]) <|
  .seq (.seq (au [aa 3 0,((some 4),.op (.fM (.tmp 3))),aA 5 .eql 4 3]) <|
  .cond (.tmp 5) (.seq (.region [] [⟨none,[aa 6 0,((some 7),.op (.cU (.tmp 6) (.val (.val (.int .i64 0))))),((some 8),.op (.arith .eql (.tmp 7) (.val (.val (.int .u8 39))))),aa 9 8]⟩,⟨(some (9,true)),[aa 10 0,((some 11),.op (.cU (.tmp 10) (.val (.val (.int .i64 2))))),((some 12),.op (.arith .eql (.tmp 11) (.val (.val (.int .u8 39)))))]⟩,⟨none,[bI 13 9 12,aa 14 13]⟩,⟨(some (14,true)),[aa 15 0,((some 16),.op (.cU (.tmp 15) (.val (.val (.int .i64 1))))),((some 17),.op (.arith .geq (.tmp 16) (.val (.val (.int .u8 32)))))]⟩,⟨none,[bI 18 14 17,aa 19 18]⟩,⟨(some (19,true)),[aa 20 0,((some 21),.op (.cU (.tmp 20) (.val (.val (.int .i64 1))))),((some 22),.op (.arith .leq (.tmp 21) (.val (.val (.int .u8 126)))))]⟩,⟨none,[bI 23 19 22,aa 24 23]⟩,⟨(some (24,true)),[aa 25 0,((some 26),.op (.cU (.tmp 25) (.val (.val (.int .i64 1))))),((some 27),.op (.arith .neq (.tmp 26) (.val (.val (.int .u8 39)))))]⟩,⟨none,[bI 28 24 27,aa 29 28]⟩,⟨(some (29,true)),[aa 30 0,((some 31),.op (.cU (.tmp 30) (.val (.val (.int .i64 1))))),((some 32),.op (.arith .neq (.tmp 31) (.val (.val (.int .u8 92)))))]⟩,⟨none,[bI 33 29 32,aa 2 33]⟩]) <|
  .ret) (.skip)) <|
  .seq (.region [] [⟨none,[aa 34 0,((some 35),.op (.fM (.tmp 34))),aA 36 .eql 35 4,aa 37 36]⟩,⟨(some (37,true)),[aa 38 0,((some 39),.op (.cU (.tmp 38) (.val (.val (.int .i64 0))))),((some 40),.op (.arith .eql (.tmp 39) (.val (.val (.int .u8 39)))))]⟩,⟨none,[bI 41 37 40,aa 42 41]⟩,⟨(some (42,true)),[aa 43 0,((some 44),.op (.cU (.tmp 43) (.val (.val (.int .i64 3))))),((some 45),.op (.arith .eql (.tmp 44) (.val (.val (.int .u8 39)))))]⟩,⟨none,[bI 46 42 45,aa 47 46]⟩,⟨(some (47,true)),[aa 48 0,((some 49),.op (.cU (.tmp 48) (.val (.val (.int .i64 1))))),((some 50),.op (.arith .eql (.tmp 49) (.val (.val (.int .u8 92)))))]⟩,⟨none,[bI 51 47 50,aa 52 51]⟩,⟨(some (52,true)),[aa 53 0,((some 54),.op (.cU (.tmp 53) (.val (.val (.int .i64 2))))),((some 55),.op (.arith .eql (.tmp 54) (.val (.val (.int .u8 110))))),aa 56 55]⟩,⟨(some (56,false)),[aa 57 0,((some 58),.op (.cU (.tmp 57) (.val (.val (.int .i64 2))))),((some 59),.op (.arith .eql (.tmp 58) (.val (.val (.int .u8 116)))))]⟩,⟨(some (52,true)),[bC 60 56 59,aa 61 60]⟩,⟨(some (61,false)),[aa 62 0,((some 63),.op (.cU (.tmp 62) (.val (.val (.int .i64 2))))),((some 64),.op (.arith .eql (.tmp 63) (.val (.val (.int .u8 92)))))]⟩,⟨(some (52,true)),[bC 65 61 64,aa 66 65]⟩,⟨(some (66,false)),[aa 67 0,((some 68),.op (.cU (.tmp 67) (.val (.val (.int .i64 2))))),((some 69),.op (.arith .eql (.tmp 68) (.val (.val (.int .u8 39)))))]⟩,⟨(some (52,true)),[bC 70 66 69]⟩,⟨none,[bI 71 52 70,aa 2 71]⟩]) <|
  .ret,
  [.tmp 2],72⟩
theorem oX:bt Tryz.prog 191 []=some kq:=by kernel_rfl
def pf:DC :=
  .seq (.seq (au [aa 6 4,aa 7 3,aQ 8 7,aS 9 .lss 6 8]) <|
  .cond (.tmp 9) (.skip) (.exit 0)) <|
  .seq (.block 1 (.seq (.region [(5,9)] [⟨none,[aa 12 0,aQ 13 12,aA 14 .lss 13 4,aa 15 14]⟩,⟨(some (15,true)),[aa 16 0,((some 17),.op (.old (.convert 73 9 (.tmp 16)) 9)),aa 18 3,aa 19 4,bo 20 1 18 19,aq 21 20,((some 22),.op (.ia .add (.tmp 17) (.tmp 21))),aK 23 191 [22]]⟩,⟨none,[bI 24 15 23]⟩]) <|
  .cond (.tmp 24) (.seq (au [aI 2 4]) <|
  .ret) (.skip))) <|
  au [aa 10 4,aA 11 .add 10 1,aa 4 11]
def j9:DF:=⟨.seq (au [aI 2 0]) <|
  .seq (.region [] [⟨none,[((some 5),.op (.bE 5 1 [(.val (.string ⟨#[]⟩))] [(0,(.val (.val (.string ⟨#[120,39]⟩)))),(1,(.val (.val (.string ⟨#[39]⟩)))),(2,(.val (.val (.string ⟨#[92,110,39]⟩)))),(3,(.val (.val (.string ⟨#[110,39]⟩)))),(4,(.val (.val (.string ⟨#[92,39,39]⟩))))])),aa 3 5]⟩]) <|
  .seq (.seq (au [aI 4 0]) <|
  .block 0 (.loop pf)) <|
  .seq (au [aI 2 3]) <|
  .ret,
  [.tmp 2],25⟩
theorem oG:bt Tryz.prog 220 []=some j9:=by kernel_rfl
def kb:DF:=⟨.seq (au [aI 2 0]) <|
  .seq (.seq (au [aa 3 0]) <|
  .block 0 (.seq (.region [] [⟨none,[((some 5),.op (.ia .eql (.tmp 3) (.val (.val (.string ⟨#[116,111,107,101,110]⟩))))),aa 4 5]⟩]) <|
  .cond (.tmp 4) (.seq (au [aI 2 3]) <|
  .ret) (.seq (.region [] [⟨none,[((some 7),.op (.ia .eql (.tmp 3) (.val (.val (.string ⟨#[108,101,102,116]⟩))))),aa 6 7]⟩]) <|
  .cond (.tmp 6) (.seq (au [aI 2 4]) <|
  .ret) (.seq (.region [] [⟨none,[((some 9),.op (.ia .eql (.tmp 3) (.val (.val (.string ⟨#[114,105,103,104,116]⟩))))),aa 8 9]⟩]) <|
  .cond (.tmp 8) (.seq (au [aI 2 5]) <|
  .ret) (.seq (.region [] [⟨none,[((some 11),.op (.ia .eql (.tmp 3) (.val (.val (.string ⟨#[110,111,110,97,115,115,111,99]⟩))))),aa 10 11]⟩]) <|
  .cond (.tmp 10) (.seq (au [aI 2 6]) <|
  .ret) (.seq (.region [] [⟨none,[((some 13),.op (.ia .eql (.tmp 3) (.val (.val (.string ⟨#[115,116,97,114,116]⟩))))),aa 12 13]⟩]) <|
  .cond (.tmp 12) (.seq (au [aI 2 7]) <|
  .ret) (.seq (.region [] [⟨none,[((some 15),.op (.ia .eql (.tmp 3) (.val (.val (.string ⟨#[112,114,101,99]⟩))))),aa 14 15]⟩]) <|
  .cond (.tmp 14) (.seq (au [aI 2 8]) <|
  .ret) (.skip)))))))) <|
  .seq (au [aI 2 0]) <|
  .ret,
  [.tmp 2],16⟩
theorem oE:bt Tryz.prog 221 []=some kb:=by kernel_rfl
def mO:DF:=⟨.seq (au [aI 2 0]) <|
  .seq (.seq (au [aa 3 0]) <|
  .block 0 (.seq (au [((some 5),.op (.arith .eql (.tmp 3) (.val (.val (.int .u8 58))))),aa 4 5]) <|
  .cond (.tmp 4) (.seq (au [aI 2 10]) <|
  .ret) (.seq (au [((some 7),.op (.arith .eql (.tmp 3) (.val (.val (.int .u8 124))))),aa 6 7]) <|
  .cond (.tmp 6) (.seq (au [aI 2 11]) <|
  .ret) (.seq (au [((some 9),.op (.arith .eql (.tmp 3) (.val (.val (.int .u8 59))))),aa 8 9]) <|
  .cond (.tmp 8) (.seq (au [aI 2 12]) <|
  .ret) (.skip))))) <|
  .seq (au [aI 2 0]) <|
  .ret,
  [.tmp 2],10⟩
theorem qK:bt Tryz.prog 222 []=some mO:=by kernel_rfl
def uE:DC :=
  .seq (.seq (.region [] [⟨none,[aa 21 7,br 22 21,ao 23 3 22,aq 24 23,aA 25 .eql 24 0,aa 26 25]⟩,⟨(some (26,true)),[aa 27 7,br 28 27,ao 29 0 28,aq 30 29,aQ 31 30,aA 32 .gtr 31 0]⟩,⟨none,[bI 33 26 32,aa 34 33]⟩,⟨(some (34,true)),[aa 35 7,aK 36 182 [35],aA 37 .neq 36 9]⟩,⟨none,[bI 38 34 37]⟩]) <|
  .cond (.tmp 38) (.skip) (.exit 0)) <|
  .block 1 (.region [(1,3)] [⟨none,[ao 39 1 8,aq 40 39,aa 41 7,aK 42 181 [41],((some 43),.op (.app 5 88 (.tmp 40) (.tmp 42))),ao 44 1 8,(none,.op (.store 1 (.tmp 44) (.tmp 43)))]⟩])
def oV:DF:=⟨.seq (au [((some 4),.op (.alloc [(.emp 1),(.emp 1)])),((some 5),.op (.bd (.val (.val (.complex .f64 0 0))))),aI 6 0]) <|
  .seq (au [aa 9 0,aa 10 1,((some 11),.op (.build [(.emp 1),(.val (.complex .f64 0 0)),(.val (.complex .f64 0 0)),(.val (.int .i64 0))] [(0,1,(.tmp 9)),(1,1,(.tmp 10))])),((some 12),.op (.box (.tmp 11))),aa 7 12]) <|
  .seq (au [aa 13 7,aK 14 179 [13],((some 15),.op (.build [(.emp 1),(.emp 1)] [(0,1,(.tmp 14))])),((some 8),.op (.alloc [(.emp 1),(.emp 1)])),(none,.op (.store 2 (.tmp 8) (.tmp 15)))]) <|
  .seq (au [aa 16 7,cH 17 180 [(.tmp 16),(.val (.val (.int .i64 9))),(.val (.val (.int .i64 9)))]]) <|
  .seq (au [aa 18 7,aK 19 181 [18],ao 20 1 8,(none,.op (.store 1 (.tmp 20) (.tmp 19)))]) <|
  .seq (.block 0 (.loop uE)) <|
  .seq (.seq (.region [] [⟨none,[aa 45 7,br 46 45,ao 47 3 46,aq 48 47,aA 49 .eql 48 0,aa 50 49]⟩,⟨(some (50,true)),[aa 51 7,br 52 51,ao 53 0 52,aq 54 53,aQ 55 54,aA 56 .gtr 55 0]⟩,⟨none,[bI 57 50 56]⟩]) <|
  .cond (.tmp 57) (au [aa 58 7,cH 59 180 [(.tmp 58),(.val (.val (.int .i64 9))),(.val (.val (.int .i64 9)))]]) (.skip)) <|
  .seq (.seq (au [aa 60 7,br 61 60,ao 62 0 61,aq 63 62,aQ 64 63,aA 65 .gtr 64 0]) <|
  .cond (.tmp 65) (au [aa 66 7,aK 67 183 [66]]) (.skip)) <|
  .seq (.seq (au [aa 68 7,br 69 68,ao 70 3 69,aq 71 70,aA 72 .neq 71 0]) <|
  .cond (.tmp 72) (.seq (.region [(4,9),(8,9)] [⟨none,[((some 73),.op (.build [(.emp 1),(.emp 1)] [])),aa 74 7,br 75 74,ao 76 2 75,aq 77 76,aa 78 7,br 79 78,ao 80 3 79,aq 81 80,(none,.op (.store 2 (.tmp 4) (.tmp 73))),aa 5 77,aa 6 81]⟩]) <|
  .ret) (.skip)) <|
  .seq (au [aZ 82 2 8,(none,.op (.store 2 (.tmp 4) (.tmp 82))),((some 5),.op (.bd (.val (.val (.complex .f64 0 0))))),aI 6 0]) <|
  .ret,
  [.cell 4 (some 2),.tmp 5,.tmp 6],83⟩
theorem tw:bt Tryz.prog 121 []=some oV:=by kernel_rfl
def im:DF:=⟨.seq (au [aI 2 0]) <|
  .seq (.seq (.region [] [⟨none,[aa 3 0,br 4 3,ao 5 3 4,aq 6 5,aA 7 .neq 6 0,aa 8 7]⟩,⟨(some (8,false)),[aa 9 0,br 10 9,ao 11 0 10,aq 12 11,aQ 13 12,aA 14 .eql 13 0]⟩,⟨none,[bC 15 8 14]⟩]) <|
  .cond (.tmp 15) (.seq (au [aI 2 0]) <|
  .ret) (.skip)) <|
  .seq (au [aa 16 0,br 17 16,ao 18 0 17,aq 19 18,((some 20),.op (.idx 3 (.tmp 19) (.val (.val (.int .i64 0))))),ao 21 0 20,aq 22 21,aa 2 22]) <|
  .ret,
  [.tmp 2],23⟩
theorem lY:bt Tryz.prog 182 []=some im:=by kernel_rfl
def mq:DC :=
  .seq (.seq (au [aa 10 0,br 11 10,ao 12 3 11,aq 13 12,aA 14 .eql 13 0]) <|
  .cond (.tmp 14) (.skip) (.exit 0)) <|
  .block 1 (.seq (.region [(0,2),(2,4)] [⟨none,[aZ 15 2 4,aa 16 0,aK 17 223 [16],((some 18),.op (.build [(.val (.string ⟨#[]⟩)),(.val (.complex .f64 0 0)),(.emp 1),(.val (.string ⟨#[]⟩)),(.val (.complex .f64 0 0))] [(0,2,(.tmp 15)),(2,1,(.tmp 17))])),((some 5),.op (.alloc [(.val (.string ⟨#[]⟩)),(.val (.complex .f64 0 0)),(.emp 1),(.val (.string ⟨#[]⟩)),(.val (.complex .f64 0 0))])),(none,.op (.store 5 (.tmp 5) (.tmp 18)))]⟩]) <|
  .seq (.seq (au [aa 19 0,cH 20 224 [(.tmp 19),(.val (.val (.int .i64 8))),(.val (.val (.int .i64 8)))]]) <|
  .cond (.tmp 20) (.seq (au [aa 21 0,cH 22 180 [(.tmp 21),(.val (.val (.int .i64 8))),(.val (.val (.int .i64 8)))]]) <|
  au [aa 23 0,cH 24 180 [(.tmp 23),(.val (.val (.int .i64 1))),(.val (.val (.int .i64 2)))],ao 25 3 5,(none,.op (.store 2 (.tmp 25) (.tmp 24)))]) (.skip)) <|
  .seq (.region [] [⟨none,[aa 26 3,aZ 27 5 5,((some 28),.op (.bE 1 5 [(.val (.string ⟨#[]⟩)),(.val (.complex .f64 0 0)),(.emp 1),(.val (.string ⟨#[]⟩)),(.val (.complex .f64 0 0))] [(0,(.tmp 27))])),((some 29),.op (.app 5 88 (.tmp 26) (.tmp 28))),aa 3 29]⟩]) <|
  .seq (.seq (au [aa 30 0,cH 31 224 [(.tmp 30),(.val (.val (.int .i64 11))),(.val (.val (.int .i64 11)))],cn 32 31]) <|
  .cond (.tmp 32) (.seq (au [aa 33 0,cH 34 180 [(.tmp 33),(.val (.val (.int .i64 12))),(.val (.val (.int .i64 12)))]]) <|
  .seq (au [aa 35 3,aa 2 35]) <|
  .ret) (.skip)) <|
  au [aa 36 0,cH 37 180 [(.tmp 36),(.val (.val (.int .i64 11))),(.val (.val (.int .i64 11)))]])
def gS:DF:=⟨.seq (au [((some 2),.op (.bd (.val (.emp 1))))]) <|
  .seq (au [((some 3),.op (.bd (.val (.emp 1))))]) <|
  .seq (.region [] [⟨none,[aa 6 0,cH 7 180 [(.tmp 6),(.val (.val (.int .i64 1))),(.val (.val (.int .i64 1)))],((some 4),.op (.alloc [(.val (.string ⟨#[]⟩)),(.val (.complex .f64 0 0))])),(none,.op (.store 2 (.tmp 4) (.tmp 7)))]⟩]) <|
  .seq (au [aa 8 0,cH 9 180 [(.tmp 8),(.val (.val (.int .i64 10))),(.val (.val (.int .i64 10)))]]) <|
  .seq (.block 0 (.loop mq)) <|
  .seq (au [aa 38 3,aa 2 38]) <|
  .ret,
  [.tmp 2],39⟩
theorem lq:bt Tryz.prog 181 []=some gS:=by kernel_rfl
def mW:DC :=
  .seq (.seq (au [aa 4 0,cH 5 224 [(.tmp 4),(.val (.val (.int .i64 1))),(.val (.val (.int .i64 2)))]]) <|
  .cond (.tmp 5) (.skip) (.exit 0)) <|
  .block 1 (.region [] [⟨none,[aa 6 3,aa 7 0,cH 8 180 [(.tmp 7),(.val (.val (.int .i64 1))),(.val (.val (.int .i64 2)))],((some 9),.op (.bE 1 2 [(.val (.string ⟨#[]⟩)),(.val (.complex .f64 0 0))] [(0,(.tmp 8))])),((some 10),.op (.app 2 32 (.tmp 6) (.tmp 9))),aa 3 10]⟩])
def iq:DF:=⟨.seq (au [((some 2),.op (.bd (.val (.emp 1))))]) <|
  .seq (au [((some 3),.op (.bd (.val (.emp 1))))]) <|
  .seq (.block 0 (.loop mW)) <|
  .seq (au [aa 11 3,aa 2 11]) <|
  .ret,
  [.tmp 2],12⟩
theorem l7:bt Tryz.prog 223 []=some iq:=by kernel_rfl
def jm:DF:=⟨.seq (au [aW 6 false]) <|
  .seq (.region [] [⟨none,[aa 7 0,br 8 7,ao 9 0 8,aq 10 9,aQ 11 10,aA 12 .gtr 11 0,aa 13 12]⟩,⟨(some (13,true)),[aa 14 0,aK 15 182 [14],aa 16 1,aS 17 .eql 15 16,aa 18 17]⟩,⟨(some (18,false)),[aa 19 0,aK 20 182 [19],aa 21 2,aS 22 .eql 20 21]⟩,⟨(some (13,true)),[bC 23 18 22]⟩,⟨none,[bI 24 13 23,aa 6 24]⟩]) <|
  .ret,
  [.tmp 6],25⟩
theorem nr:bt Tryz.prog 224 []=some jm:=by kernel_rfl
def iu:DF:=⟨.seq (.region [] [⟨none,[((some 6),.op (.alloc [(.val (.string ⟨#[]⟩)),(.val (.complex .f64 0 0))]))]⟩]) <|
  .seq (.seq (.region [] [⟨none,[aa 8 0,br 9 8,ao 10 3 9,aq 11 10,aA 12 .neq 11 0,aa 13 12]⟩,⟨(some (13,false)),[aa 14 0,aa 15 1,aa 16 2,aK 17 224 [14,15,16],cn 18 17]⟩,⟨none,[bC 19 13 18]⟩]) <|
  .cond (.tmp 19) (.seq (au [aa 20 0,aK 21 183 [20]]) <|
  .seq (.region [] [⟨none,[((some 22),.op (.build [(.val (.string ⟨#[]⟩)),(.val (.complex .f64 0 0))] [])),(none,.op (.store 2 (.tmp 6) (.tmp 22)))]⟩]) <|
  .ret) (.skip)) <|
  .seq (.region [] [⟨none,[aa 23 0,br 24 23,ao 25 0 24,aq 26 25,((some 27),.op (.idx 3 (.tmp 26) (.val (.val (.int .i64 0))))),aZ 28 3 27,((some 7),.op (.alloc [(.val (.int .i64 0)),(.val (.string ⟨#[]⟩)),(.val (.complex .f64 0 0))])),(none,.op (.store 3 (.tmp 7) (.tmp 28)))]⟩]) <|
  .seq (au [aa 29 0,aa 30 0,br 31 30,ao 32 0 31,aq 33 32,((some 34),.op (.slice 3 (.tmp 33) (some (.val (.val (.int .i64 1)))) none)),br 35 29,ao 36 0 35,(none,.op (.store 1 (.tmp 36) (.tmp 34)))]) <|
  .seq (.region [] [⟨none,[ao 37 1 7,aq 38 37,ao 39 2 7,aq 40 39,((some 41),.op (.build [(.val (.string ⟨#[]⟩)),(.val (.complex .f64 0 0))] [(0,1,(.tmp 38)),(1,1,(.tmp 40))])),(none,.op (.store 2 (.tmp 6) (.tmp 41)))]⟩]) <|
  .ret,
  [.cell 6 (some 2)],42⟩
theorem l8:bt Tryz.prog 180 []=some iu:=by kernel_rfl
def ib:DF:=⟨.seq (.seq (au [aa 2 0,br 3 2,ao 4 3 3,aq 5 4,aA 6 .neq 5 0]) <|
  .cond (.tmp 6) (.ret) (.skip)) <|
  .seq (au [aa 7 0,aa 8 0,aa 9 0,br 10 9,ao 11 1 10,aq 12 11,br 13 7,ao 14 2 13,(none,.op (.store 1 (.tmp 14) (.tmp 12))),br 15 8,ao 16 3 15,(none,.op (.store 1 (.tmp 16) (.val (.val (.int .i64 4)))))]) <|
  .seq (au [aa 17 0,br 18 17,ao 19 0 18,aq 20 19,aQ 21 20,aA 22 .gtr 21 0]) <|
  .cond (.tmp 22) (au [aa 23 0,aa 24 0,aa 25 0,br 26 25,ao 27 0 26,aq 28 27,((some 29),.op (.idx 3 (.tmp 28) (.val (.val (.int .i64 0))))),ao 30 2 29,aq 31 30,br 32 23,ao 33 2 32,(none,.op (.store 1 (.tmp 33) (.tmp 31))),br 34 24,ao 35 3 34,(none,.op (.store 1 (.tmp 35) (.val (.val (.int .i64 3)))))]) (.skip),
  [],36⟩
theorem mc:bt Tryz.prog 183 []=some ib:=by kernel_rfl
def l0:DC :=
  .seq (.seq (.region [] [⟨none,[aa 6 0,br 7 6,ao 8 3 7,aq 9 8,aA 10 .eql 9 0,aa 11 10]⟩,⟨(some (11,true)),[aa 12 0,br 13 12,ao 14 0 13,aq 15 14,aQ 16 15,aA 17 .gtr 16 0]⟩,⟨none,[bI 18 11 17,aa 19 18]⟩,⟨(some (19,true)),[aa 20 0,aK 21 182 [20],aA 22 .neq 21 9]⟩,⟨none,[bI 23 19 22]⟩]) <|
  .cond (.tmp 23) (.skip) (.exit 0)) <|
  .block 1 (.seq (au [aa 24 0,aK 25 182 [24],aa 4 25]) <|
  .seq (.seq (au [aa 26 4,aA 27 .eql 26 7]) <|
  .cond (.tmp 27) (.seq (au [aa 28 0,aa 29 4,aa 30 4,aK 31 180 [28,29,30]]) <|
  .seq (.region [] [⟨none,[aa 32 3,aa 33 4,aa 34 0,cH 35 180 [(.tmp 34),(.val (.val (.int .i64 1))),(.val (.val (.int .i64 1)))],((some 36),.op (.bE 1 2 [(.val (.string ⟨#[]⟩)),(.val (.complex .f64 0 0))] [(0,(.tmp 35))])),((some 37),.op (.build [(.val (.int .i64 0)),(.emp 1)] [(0,1,(.tmp 33)),(1,1,(.tmp 36))])),((some 38),.op (.bE 1 2 [(.val (.int .i64 0)),(.emp 1)] [(0,(.tmp 37))])),((some 39),.op (.app 2 32 (.tmp 32) (.tmp 38))),aa 3 39]⟩]) <|
  .exit 1) (.skip)) <|
  .seq (.seq (.region [] [⟨none,[aa 40 4,aA 41 .neq 40 3,aa 42 41]⟩,⟨(some (42,true)),[aa 43 4,aA 44 .neq 43 4]⟩,⟨none,[bI 45 42 44,aa 46 45]⟩,⟨(some (46,true)),[aa 47 4,aA 48 .neq 47 5]⟩,⟨none,[bI 49 46 48,aa 50 49]⟩,⟨(some (50,true)),[aa 51 4,aA 52 .neq 51 6]⟩,⟨none,[bI 53 50 52]⟩]) <|
  .cond (.tmp 53) (.seq (au [aa 54 0,aK 55 183 [54]]) <|
  .exit 1) (.skip)) <|
  .seq (au [aa 56 0,aa 57 4,aa 58 4,aK 59 180 [56,57,58]]) <|
  .seq (.region [] [⟨none,[aa 60 0,cH 61 180 [(.tmp 60),(.val (.val (.int .i64 1))),(.val (.val (.int .i64 2)))],((some 5),.op (.alloc [(.val (.string ⟨#[]⟩)),(.val (.complex .f64 0 0))])),(none,.op (.store 2 (.tmp 5) (.tmp 61)))]⟩]) <|
  .region [(2,5),(3,5)] [⟨none,[aa 62 3,aa 63 4,aZ 64 2 5,((some 65),.op (.bE 1 2 [(.val (.string ⟨#[]⟩)),(.val (.complex .f64 0 0))] [(0,(.tmp 64))])),aa 66 0,aK 67 223 [66],((some 68),.op (.app 2 32 (.tmp 65) (.tmp 67))),((some 69),.op (.build [(.val (.int .i64 0)),(.emp 1)] [(0,1,(.tmp 63)),(1,1,(.tmp 68))])),((some 70),.op (.bE 1 2 [(.val (.int .i64 0)),(.emp 1)] [(0,(.tmp 69))])),((some 71),.op (.app 2 32 (.tmp 62) (.tmp 70))),aa 3 71]⟩])
def gT:DF:=⟨.seq (au [((some 2),.op (.bd (.val (.emp 1))))]) <|
  .seq (au [((some 3),.op (.bd (.val (.emp 1))))]) <|
  .seq (.block 0 (.loop l0)) <|
  .seq (au [aa 72 3,aa 2 72]) <|
  .ret,
  [.tmp 2],73⟩
theorem lx:bt Tryz.prog 179 []=some gT:=by kernel_rfl
def qW:DC :=
  .seq (.seq (.region [] [⟨none,[aa 17 6,ao 18 1 1,aq 19 18,aQ 20 19,aS 21 .lss 17 20,aa 22 21]⟩,⟨(some (22,true)),[aa 23 5,br 24 23,ao 25 10 24,aq 26 25,aA 27 .eql 26 0]⟩,⟨none,[bI 28 22 27]⟩]) <|
  .cond (.tmp 28) (.skip) (.exit 0)) <|
  .seq (.block 1 (au [aa 31 5,ao 32 1 1,aq 33 32,aa 34 6,bo 35 5 33 34,aZ 36 5 35,aK 37 124 [31,36]])) <|
  au [aa 29 6,aA 30 .add 29 1,aa 6 30]
def lN:DF:=⟨.seq (au [c8 1 0,((some 2),.op (.alloc [(.emp 1),(.emp 1),(.emp 1),(.val (.int .i64 0))])),((some 3),.op (.bd (.val (.val (.complex .f64 0 0))))),aI 4 0]) <|
  .seq (.region [] [⟨none,[((some 7),.op (.build [(.emp 1),(.emp 1),(.emp 1),(.val (.int .i64 0)),(.emp 1),(.val (.string ⟨#[]⟩)),(.val (.complex .f64 0 0)),(.val (.bool false)),(.val (.int .i64 0)),(.val (.complex .f64 0 0)),(.val (.int .i64 0))] [])),((some 8),.op (.box (.tmp 7))),aa 5 8]⟩]) <|
  .seq (au [aa 9 5,ao 10 0 1,aq 11 10,aK 12 122 [9,11]]) <|
  .seq (au [aa 13 5,ao 14 1 1,aq 15 14,aK 16 123 [13,15]]) <|
  .seq (.seq (au [aI 6 0]) <|
  .block 0 (.loop qW)) <|
  .seq (.seq (.region [] [⟨none,[aa 38 5,br 39 38,ao 40 7 39,aq 41 40,aa 42 41]⟩,⟨(some (42,true)),[aa 43 5,br 44 43,ao 45 0 44,aZ 46 4 45,aa 47 5,br 48 47,ao 49 5 48,ao 50 0 49,aq 51 50,aK 52 125 [46,51],aA 53 .lss 52 0]⟩,⟨none,[bI 54 42 53]⟩]) <|
  .cond (.tmp 54) (au [aa 55 5,aa 56 5,br 57 56,ao 58 5 57,aZ 59 2 58,cH 60 126 [(.tmp 55),(.tmp 59),(.val (.val (.int .i64 8)))]]) (.skip)) <|
  .seq (.seq (au [ao 61 1 1,aq 62 61,aQ 63 62,aA 64 .eql 63 0]) <|
  .cond (.tmp 64) (.region [] [⟨none,[aa 65 5,((some 66),.op (.build [(.val (.string ⟨#[]⟩)),(.val (.complex .f64 0 0))] [])),cH 67 126 [(.tmp 65),(.tmp 66),(.val (.val (.int .i64 8)))]]⟩]) (.skip)) <|
  .seq (.seq (au [aa 68 5,br 69 68,ao 70 10 69,aq 71 70,aA 72 .neq 71 0]) <|
  .cond (.tmp 72) (.seq (.region [(4,9),(8,9)] [⟨none,[((some 73),.op (.build [(.emp 1),(.emp 1),(.emp 1),(.val (.int .i64 0))] [])),aa 74 5,br 75 74,ao 76 9 75,aq 77 76,aa 78 5,br 79 78,ao 80 10 79,aq 81 80,(none,.op (.store 4 (.tmp 2) (.tmp 73))),aa 3 77,aa 4 81]⟩]) <|
  .ret) (.skip)) <|
  .seq (.seq (au [aa 82 5,br 83 82,ao 84 7 83,aq 85 84]) <|
  .cond (.tmp 85) (au [aa 86 5,aa 87 5,br 88 87,ao 89 0 88,aZ 90 4 89,aa 91 5,br 92 91,ao 93 5 92,ao 94 0 93,aq 95 94,aK 96 125 [90,95],br 97 86,ao 98 0 97,ao 99 3 98,(none,.op (.store 1 (.tmp 99) (.tmp 96)))]) (.skip)) <|
  .seq (au [aa 100 5,br 101 100,ao 102 0 101,aZ 103 4 102,(none,.op (.store 4 (.tmp 2) (.tmp 103))),((some 3),.op (.bd (.val (.val (.complex .f64 0 0))))),aI 4 0]) <|
  .ret,
  [.cell 2 (some 4),.tmp 3,.tmp 4],104⟩
theorem qk:bt Tryz.prog 71 [1]=some lN:=by kernel_rfl
def oh:DC :=
  .seq (.seq (.region [] [⟨none,[aa 28 5,ao 29 2 3,aq 30 29,aQ 31 30,aS 32 .lss 28 31,aa 33 32]⟩,⟨(some (33,true)),[aa 34 0,br 35 34,ao 36 10 35,aq 37 36,aA 38 .eql 37 0]⟩,⟨none,[bI 39 33 38]⟩]) <|
  .cond (.tmp 39) (.skip) (.exit 0)) <|
  .seq (.block 1 (.seq (.region [] [⟨none,[ao 42 2 3,aq 43 42,aa 44 5,bo 45 2 43 44,aZ 46 2 45,((some 6),.op (.alloc [(.val (.string ⟨#[]⟩)),(.val (.complex .f64 0 0))])),(none,.op (.store 2 (.tmp 6) (.tmp 46)))]⟩]) <|
  .seq (.seq (au [ao 47 0 6,aq 48 47,aK 49 139 [48],cn 50 49]) <|
  .cond (.tmp 50) (.seq (au [aa 51 0,aZ 52 2 6,cH 53 126 [(.tmp 51),(.tmp 52),(.val (.val (.int .i64 3)))]]) <|
  .ret) (.skip)) <|
  .seq (.seq (au [aa 54 5,aA 55 .eql 54 6]) <|
  .cond (.tmp 55) (.seq (au [aa 56 0,aZ 57 2 6,cH 58 126 [(.tmp 56),(.tmp 57),(.val (.val (.int .i64 5)))]]) <|
  .ret) (.skip)) <|
  .seq (au [aa 59 0,aZ 60 2 6,cH 61 185 [(.tmp 59),(.tmp 60),(.val (.val (.bool true)))],aa 7 61]) <|
  .seq (au [ao 62 1 4,aq 63 62,aa 64 7,((some 65),.op (.bE 1 1 [(.val (.int .i64 0))] [(0,(.tmp 64))])),((some 66),.op (.app 1 8 (.tmp 63) (.tmp 65))),ao 67 1 4,(none,.op (.store 1 (.tmp 67) (.tmp 66)))]) <|
  .seq (au [aa 68 7,aA 69 .geq 68 0]) <|
  .cond (.tmp 69) (au [aa 70 7,ao 71 2 4,(none,.op (.store 1 (.tmp 71) (.tmp 70)))]) (.skip))) <|
  au [aa 40 5,aA 41 .add 40 1,aa 5 41]
def jn:DF:=⟨.seq (au [c8 3 1]) <|
  .seq (.region [(7,9)] [⟨none,[aa 8 0,br 9 8,ao 10 0 9,aZ 11 4 10,ao 12 0 3,ao 13 0 12,aq 14 13,aK 15 125 [11,14],((some 16),.op (.build [(.val (.int .i64 0)),(.emp 1),(.val (.int .i64 0))] [(0,1,(.tmp 15)),(2,1,(.val (.val (.int .i64 (-1)))))])),((some 4),.op (.alloc [(.val (.int .i64 0)),(.emp 1),(.val (.int .i64 0))])),(none,.op (.store 3 (.tmp 4) (.tmp 16)))]⟩]) <|
  .seq (.seq (au [aa 17 0,br 18 17,ao 19 0 18,ao 20 2 19,aq 21 20,aQ 22 21,aA 23 .eql 22 40]) <|
  .cond (.tmp 23) (au [aa 24 0,ao 25 0 3,aZ 26 2 25,cH 27 126 [(.tmp 24),(.tmp 26),(.val (.val (.int .i64 5)))]]) (.skip)) <|
  .seq (.seq (au [aI 5 0]) <|
  .block 0 (.loop oh)) <|
  .seq (.seq (.region [] [⟨none,[ao 72 3 3,ao 73 0 72,aq 74 73,((some 75),.op (.ia .neq (.tmp 74) (.val (.val (.string ⟨#[]⟩))))),aa 76 75]⟩,⟨(some (76,true)),[aa 77 0,br 78 77,ao 79 10 78,aq 80 79,aA 81 .eql 80 0]⟩,⟨none,[bI 82 76 81]⟩]) <|
  .cond (.tmp 82) (.seq (.seq (au [ao 83 3 3,ao 84 0 83,aq 85 84,aK 86 139 [85],cn 87 86]) <|
  .cond (.tmp 87) (.seq (au [aa 88 0,ao 89 3 3,aZ 90 2 89,cH 91 126 [(.tmp 88),(.tmp 90),(.val (.val (.int .i64 3)))]]) <|
  .ret) (.skip)) <|
  au [aa 92 0,ao 93 3 3,aZ 94 2 93,cH 95 185 [(.tmp 92),(.tmp 94),(.val (.val (.bool false)))],ao 96 2 4,(none,.op (.store 1 (.tmp 96) (.tmp 95)))]) (.skip)) <|
  au [aa 97 0,aa 98 0,br 99 98,ao 100 0 99,ao 101 2 100,aq 102 101,aZ 103 3 4,((some 104),.op (.bE 1 3 [(.val (.int .i64 0)),(.emp 1),(.val (.int .i64 0))] [(0,(.tmp 103))])),((some 105),.op (.app 3 40 (.tmp 102) (.tmp 104))),br 106 97,ao 107 0 106,ao 108 2 107,(none,.op (.store 1 (.tmp 108) (.tmp 105)))],
  [],109⟩
theorem nz:bt Tryz.prog 124 [3]=some jn:=by kernel_rfl
def lK:DF:=⟨.seq (au [aW 2 false]) <|
  .seq (.region [] [⟨none,[aa 3 0,aK 4 142 [3],aa 5 4]⟩,⟨(some (5,false)),[aa 6 0,aK 7 191 [6]]⟩,⟨none,[bC 8 5 7,aa 2 8]⟩]) <|
  .ret,
  [.tmp 2],9⟩
theorem qy:bt Tryz.prog 139 []=some lK:=by kernel_rfl
def r7:DC :=
  .seq (.seq (au [aa 18 3,aa 19 0,((some 20),.op (.fM (.tmp 19))),aS 21 .lss 18 20]) <|
  .cond (.tmp 21) (.skip) (.exit 0)) <|
  .seq (.block 1 (.seq (au [aa 24 0,aa 25 3,((some 26),.op (.cU (.tmp 24) (.tmp 25))),aK 27 193 [26],cn 28 27]) <|
  .cond (.tmp 28) (.seq (au [aW 2 false]) <|
  .ret) (.skip))) <|
  au [aa 22 3,aA 23 .add 22 1,aa 3 23]
def nj:DF:=⟨.seq (au [aW 2 false]) <|
  .seq (.seq (.region [] [⟨none,[aa 4 0,((some 5),.op (.fM (.tmp 4))),aA 6 .eql 5 0,aa 7 6]⟩,⟨(some (7,false)),[aa 8 0,((some 9),.op (.fM (.tmp 8))),aA 10 .gtr 9 20]⟩,⟨none,[bC 11 7 10,aa 12 11]⟩,⟨(some (12,false)),[aa 13 0,((some 14),.op (.cU (.tmp 13) (.val (.val (.int .i64 0))))),aK 15 192 [14],cn 16 15]⟩,⟨none,[bC 17 12 16]⟩]) <|
  .cond (.tmp 17) (.seq (au [aW 2 false]) <|
  .ret) (.skip)) <|
  .seq (.seq (au [aI 3 0]) <|
  .block 0 (.loop r7)) <|
  .seq (au [aW 2 true]) <|
  .ret,
  [.tmp 2],29⟩
theorem qZ:bt Tryz.prog 142 []=some nj:=by kernel_rfl
def jr:DF:=⟨.seq (au [c8 4 1]) <|
  .seq (au [aa 6 0,br 7 6,ao 8 10 7,aq 9 8,aA 10 .eql 9 0]) <|
  .cond (.tmp 10) (au [aa 11 0,aa 12 0,ao 13 1 4,aq 14 13,aa 15 2,br 16 11,ao 17 9 16,(none,.op (.store 1 (.tmp 17) (.tmp 14))),br 18 12,ao 19 10 18,(none,.op (.store 1 (.tmp 19) (.tmp 15)))]) (.skip),
  [],20⟩
theorem nt:bt Tryz.prog 126 [4]=some jr:=by kernel_rfl
def hU:DF:=⟨.seq (au [c8 4 1,aI 6 0]) <|
  .seq (au [aa 8 0,br 9 8,ao 10 0 9,aZ 11 4 10,ao 12 0 4,aq 13 12,aK 14 125 [11,13],aa 7 14]) <|
  .seq (.block 0 (.seq (.region [] [⟨none,[aa 19 7,aA 20 .geq 19 0,aa 21 20]⟩,⟨(some (21,true)),[aa 22 2]⟩,⟨none,[bI 23 21 22,aa 18 23]⟩]) <|
  .cond (.tmp 18) (.seq (au [aa 24 7,((some 25),.op (.arith .sub (.val (.val (.int .i64 (-1)))) (.tmp 24))),aa 6 25]) <|
  .ret) (.seq (au [aa 27 7,aA 28 .geq 27 0,aa 26 28]) <|
  .cond (.tmp 26) (au [aa 29 0,aZ 30 2 4,cH 31 126 [(.tmp 29),(.tmp 30),(.val (.val (.int .i64 6)))]]) (.seq (.region [] [⟨none,[aa 33 0,br 34 33,ao 35 0 34,aZ 36 4 35,ao 37 0 4,aq 38 37,aK 39 140 [36,38],aA 40 .geq 39 0,aa 41 40]⟩,⟨(some (41,false)),[ao 42 0 4,aq 43 42,aK 44 191 [43]]⟩,⟨none,[bC 45 41 44,aa 46 45]⟩,⟨(some (46,false)),[ao 47 0 4,aq 48 47,((some 49),.op (.ia .eql (.tmp 48) (.val (.val (.string ⟨#[101,114,114,111,114]⟩)))))]⟩,⟨none,[bC 50 46 49,aa 32 50]⟩]) <|
  .cond (.tmp 32) (.seq (au [aa 51 0,aZ 52 2 4,aK 53 226 [51,52],aa 6 53]) <|
  .ret) (au [aa 15 0,aZ 16 2 4,cH 17 126 [(.tmp 15),(.tmp 16),(.val (.val (.int .i64 6)))]]))))) <|
  .seq (au [aI 6 0]) <|
  .ret,
  [.tmp 6],54⟩
theorem lZ:bt Tryz.prog 185 [4]=some hU:=by kernel_rfl
def tj:DC :=
  .seq (.seq (au [aa 6 5,ao 7 1 2,aq 8 7,aQ 9 8,aS 10 .lss 6 9]) <|
  .cond (.tmp 10) (.skip) (.exit 0)) <|
  .seq (.block 1 (.seq (au [ao 13 1 2,aq 14 13,aa 15 5,bo 16 1 14 15,aq 17 16,aa 18 1,((some 19),.op (.ia .eql (.tmp 17) (.tmp 18)))]) <|
  .cond (.tmp 19) (.seq (au [aa 20 5,aa 4 20]) <|
  .ret) (.skip))) <|
  au [aa 11 5,aA 12 .add 11 1,aa 5 12]
def nJ:DF:=⟨.seq (au [c8 2 0,aI 4 0]) <|
  .seq (.seq (au [aI 5 0]) <|
  .block 0 (.loop tj)) <|
  .seq (au [aI 4 (-1)]) <|
  .ret,
  [.tmp 4],21⟩
theorem rP:bt Tryz.prog 125 [2]=some nJ:=by kernel_rfl
def sx:DC :=
  .seq (.seq (au [aa 6 5,ao 7 0 2,aq 8 7,aQ 9 8,aS 10 .lss 6 9]) <|
  .cond (.tmp 10) (.skip) (.exit 0)) <|
  .seq (.block 1 (.seq (au [ao 13 0 2,aq 14 13,aa 15 5,bo 16 3 14 15,ao 17 0 16,aq 18 17,aa 19 1,((some 20),.op (.ia .eql (.tmp 18) (.tmp 19)))]) <|
  .cond (.tmp 20) (.seq (au [aa 21 5,aa 4 21]) <|
  .ret) (.skip))) <|
  au [aa 11 5,aA 12 .add 11 1,aa 5 12]
def mL:DF:=⟨.seq (au [c8 2 0,aI 4 0]) <|
  .seq (.seq (au [aI 5 0]) <|
  .block 0 (.loop sx)) <|
  .seq (au [aI 4 (-1)]) <|
  .ret,
  [.tmp 4],22⟩
theorem rL:bt Tryz.prog 140 [2]=some mL:=by kernel_rfl
def gw:DF:=⟨.seq (au [c8 3 1,aI 4 0]) <|
  .seq (au [aa 6 0,br 7 6,ao 8 0 7,aZ 9 4 8,ao 10 0 3,aq 11 10,aK 12 140 [9,11],aa 5 12]) <|
  .seq (.seq (au [aa 13 5,aA 14 .geq 13 0]) <|
  .cond (.tmp 14) (.seq (au [aa 15 5,aa 4 15]) <|
  .ret) (.skip)) <|
  .seq (.seq (au [aa 16 0,br 17 16,ao 18 0 17,ao 19 0 18,aq 20 19,aQ 21 20,aA 22 .eql 21 24]) <|
  .cond (.tmp 22) (.seq (au [aa 23 0,aZ 24 2 3,cH 25 126 [(.tmp 23),(.tmp 24),(.val (.val (.int .i64 5)))]]) <|
  .seq (au [aI 4 0]) <|
  .ret) (.skip)) <|
  .seq (.region [] [⟨none,[aa 26 0,aa 27 0,br 28 27,ao 29 0 28,ao 30 0 29,aq 31 30,ao 32 0 3,aq 33 32,((some 34),.op (.build [(.val (.string ⟨#[]⟩)),(.val (.int .i64 0)),(.val (.int .i64 0))] [(0,1,(.tmp 33))])),((some 35),.op (.bE 1 3 [(.val (.string ⟨#[]⟩)),(.val (.int .i64 0)),(.val (.int .i64 0))] [(0,(.tmp 34))])),((some 36),.op (.app 3 32 (.tmp 31) (.tmp 35))),br 37 26,ao 38 0 37,ao 39 0 38,(none,.op (.store 1 (.tmp 39) (.tmp 36)))]⟩]) <|
  .seq (au [aa 40 0,br 41 40,ao 42 0 41,ao 43 0 42,aq 44 43,aQ 45 44,aA 46 .sub 45 1,aa 4 46]) <|
  .ret,
  [.tmp 4],47⟩
theorem kG:bt Tryz.prog 226 [3]=some gw:=by kernel_rfl
def nD:DC :=
  .seq (.seq (.region [] [⟨none,[aa 60 7,ao 61 1 5,aq 62 61,aQ 63 62,aS 64 .lss 60 63,aa 65 64]⟩,⟨(some (65,true)),[aa 66 0,br 67 66,ao 68 10 67,aq 69 68,aA 70 .eql 69 0]⟩,⟨none,[bI 71 65 70]⟩]) <|
  .cond (.tmp 71) (.skip) (.exit 2)) <|
  .seq (.block 3 (au [aa 74 0,ao 75 0 5,aq 76 75,ao 77 1 5,aq 78 77,aa 79 7,bo 80 2 78 79,aZ 81 2 80,aK 82 184 [74,76,81]])) <|
  au [aa 72 7,aA 73 .add 72 1,aa 7 73]
def nF:DC :=
  .seq (.seq (.region [] [⟨none,[aa 8 4,aa 9 1,aQ 10 9,aS 11 .lss 8 10,aa 12 11]⟩,⟨(some (12,true)),[aa 13 0,br 14 13,ao 15 10 14,aq 16 15,aA 17 .eql 16 0]⟩,⟨none,[bI 18 12 17]⟩]) <|
  .cond (.tmp 18) (.skip) (.exit 0)) <|
  .seq (.block 1 (.seq (au [aa 21 1,aa 22 4,bo 23 2 21 22,aZ 24 2 23,((some 5),.op (.alloc [(.val (.int .i64 0)),(.emp 1)])),(none,.op (.store 2 (.tmp 5) (.tmp 24)))]) <|
  .seq (.seq (.region [] [⟨none,[ao 25 0 5,aq 26 25,aA 27 .lss 26 3,aa 28 27]⟩,⟨(some (28,false)),[ao 29 0 5,aq 30 29,aA 31 .gtr 30 7]⟩,⟨none,[bC 32 28 31]⟩]) <|
  .cond (.tmp 32) (.seq (.region [] [⟨none,[((some 33),.op (.build [(.val (.string ⟨#[]⟩)),(.val (.complex .f64 0 0))] [])),((some 6),.op (.alloc [(.val (.string ⟨#[]⟩)),(.val (.complex .f64 0 0))])),(none,.op (.store 2 (.tmp 6) (.tmp 33)))]⟩]) <|
  .seq (.seq (au [ao 34 1 5,aq 35 34,aQ 36 35,aA 37 .gtr 36 0]) <|
  .cond (.tmp 37) (au [ao 38 1 5,aq 39 38,((some 40),.op (.idx 2 (.tmp 39) (.val (.val (.int .i64 0))))),aZ 41 2 40,(none,.op (.store 2 (.tmp 6) (.tmp 41)))]) (.skip)) <|
  .seq (au [aa 42 0,aZ 43 2 6,cH 44 126 [(.tmp 42),(.tmp 43),(.val (.val (.int .i64 3)))]]) <|
  .ret) (.skip)) <|
  .seq (.seq (.region [] [⟨none,[ao 45 0 5,aq 46 45,aA 47 .neq 46 3,aa 48 47]⟩,⟨(some (48,true)),[ao 49 0 5,aq 50 49,aA 51 .neq 50 7]⟩,⟨none,[bI 52 48 51]⟩]) <|
  .cond (.tmp 52) (au [aa 53 0,br 54 53,ao 55 8 54,aq 56 55,aA 57 .add 56 1,br 58 53,ao 59 8 58,(none,.op (.store 1 (.tmp 59) (.tmp 57)))]) (.skip)) <|
  .seq (au [aI 7 0]) <|
  .block 2 (.loop nD))) <|
  au [aa 19 4,aA 20 .add 19 1,aa 4 20]
def iR:DF:=⟨.seq (au [aI 4 0]) <|
  .block 0 (.loop nF),
  [],83⟩
theorem nh:bt Tryz.prog 122 []=some iR:=by kernel_rfl
def gW:DF:=⟨.seq (au [c8 5 2]) <|
  .block 0 (.seq (.region [] [⟨none,[ao 63 0 5,aq 64 63,aK 65 139 [64],cn 66 65,aa 67 66]⟩,⟨(some (67,false)),[aa 68 1,aA 69 .eql 68 7,aa 70 69]⟩,⟨(some (70,true)),[ao 71 0 5,aq 72 71,aK 73 142 [72],cn 74 73]⟩,⟨(some (67,false)),[bI 75 70 74]⟩,⟨none,[bC 76 67 75,aa 62 76]⟩]) <|
  .cond (.tmp 62) (au [aa 77 0,aZ 78 2 5,cH 79 126 [(.tmp 77),(.tmp 78),(.val (.val (.int .i64 3)))]]) (.seq (au [aa 81 1,aA 82 .eql 81 7,aa 80 82]) <|
  .cond (.tmp 80) (.seq (.seq (au [aa 83 0,br 84 83,ao 85 7 84,aq 86 85]) <|
  .cond (.tmp 86) (au [aa 87 0,aZ 88 2 5,cH 89 126 [(.tmp 87),(.tmp 88),(.val (.val (.int .i64 7)))]]) (.skip)) <|
  au [aa 90 0,aa 91 0,aZ 92 2 5,br 93 90,ao 94 5 93,(none,.op (.store 2 (.tmp 94) (.tmp 92))),br 95 91,ao 96 7 95,(none,.op (.store 1 (.tmp 96) (.val (.val (.bool true)))))]) (.seq (au [aa 98 1,aA 99 .eql 98 3,aa 97 99]) <|
  .cond (.tmp 97) (.seq (.seq (au [aa 100 0,br 101 100,ao 102 4 101,aq 103 102,ao 104 0 5,aq 105 104,aK 106 225 [103,105]]) <|
  .cond (.tmp 106) (au [aa 107 0,aZ 108 2 5,cH 109 126 [(.tmp 107),(.tmp 108),(.val (.val (.int .i64 7)))]]) (.skip)) <|
  .seq (.region [] [⟨none,[aa 110 0,aa 111 0,br 112 111,ao 113 4 112,aq 114 113,ao 115 0 5,aq 116 115,((some 117),.op (.bE 1 1 [(.val (.string ⟨#[]⟩))] [(0,(.tmp 116))])),((some 118),.op (.app 1 16 (.tmp 114) (.tmp 117))),br 119 110,ao 120 4 119,(none,.op (.store 1 (.tmp 120) (.tmp 118)))]⟩]) <|
  au [aa 121 0,aZ 122 2 5,aK 123 226 [121,122]]) (.seq (au [aa 7 0,br 8 7,ao 9 0 8,aZ 10 4 9,ao 11 0 5,aq 12 11,aK 13 140 [10,12],aa 6 13]) <|
  .seq (.seq (.region [] [⟨none,[aa 14 6,aA 15 .geq 14 0,aa 16 15]⟩,⟨(some (16,true)),[aa 17 0,br 18 17,ao 19 0 18,ao 20 0 19,aq 21 20,aa 22 6,bo 23 3 21 22,ao 24 1 23,aq 25 24,aA 26 .gtr 25 0]⟩,⟨none,[bI 27 16 26]⟩]) <|
  .cond (.tmp 27) (.seq (au [aa 28 0,aZ 29 2 5,cH 30 126 [(.tmp 28),(.tmp 29),(.val (.val (.int .i64 7)))]]) <|
  .ret) (.skip)) <|
  .seq (au [aa 31 0,aZ 32 2 5,aK 33 226 [31,32],aa 6 33]) <|
  .seq (au [aa 34 0,br 35 34,ao 36 10 35,aq 37 36,aA 38 .eql 37 0]) <|
  .cond (.tmp 38) (au [aa 39 0,br 40 39,ao 41 0 40,ao 42 0 41,aq 43 42,aa 44 6,aa 45 0,br 46 45,ao 47 0 46,ao 48 0 47,aq 49 48,aa 50 6,aa 51 0,br 52 51,ao 53 8 52,aq 54 53,aa 55 1,aA 56 .sub 55 4,aA 57 .add 56 1,bo 58 3 43 44,ao 59 1 58,(none,.op (.store 1 (.tmp 59) (.tmp 54))),bo 60 3 49 50,ao 61 2 60,(none,.op (.store 1 (.tmp 61) (.tmp 57)))]) (.skip))))),
  [],124⟩
theorem lr:bt Tryz.prog 184 [5]=some gW:=by kernel_rfl
def tu:DC :=
  .seq (.seq (au [aa 6 5,aa 7 0,aQ 8 7,aS 9 .lss 6 8]) <|
  .cond (.tmp 9) (.skip) (.exit 0)) <|
  .seq (.block 1 (.seq (au [aa 12 0,aa 13 5,bo 14 1 12 13,aq 15 14,aa 16 1,((some 17),.op (.ia .eql (.tmp 15) (.tmp 16)))]) <|
  .cond (.tmp 17) (.seq (au [aW 4 true]) <|
  .ret) (.skip))) <|
  au [aa 10 5,aA 11 .add 10 1,aa 5 11]
def nR:DF:=⟨.seq (au [aW 4 false]) <|
  .seq (.seq (au [aI 5 0]) <|
  .block 0 (.loop tu)) <|
  .seq (au [aW 4 false]) <|
  .ret,
  [.tmp 4],18⟩
theorem sL:bt Tryz.prog 225 []=some nR:=by kernel_rfl
def nB:DC :=
  .seq (.seq (.region [] [⟨none,[aa 6 4,aa 7 1,aQ 8 7,aS 9 .lss 6 8,aa 10 9]⟩,⟨(some (10,true)),[aa 11 0,br 12 11,ao 13 10 12,aq 14 13,aA 15 .eql 14 0]⟩,⟨none,[bI 16 10 15]⟩]) <|
  .cond (.tmp 16) (.skip) (.exit 0)) <|
  .seq (.block 1 (.seq (.region [] [⟨none,[aa 19 1,aa 20 4,bo 21 5 19 20,ao 22 0 21,aZ 23 2 22,((some 5),.op (.alloc [(.val (.string ⟨#[]⟩)),(.val (.complex .f64 0 0))])),(none,.op (.store 2 (.tmp 5) (.tmp 23)))]⟩]) <|
  .block 2 (.seq (au [ao 38 0 5,aq 39 38,aK 40 142 [39],cn 41 40,aa 37 41]) <|
  .cond (.tmp 37) (au [aa 42 0,aZ 43 2 5,cH 44 126 [(.tmp 42),(.tmp 43),(.val (.val (.int .i64 3)))]]) (.seq (au [aa 46 0,br 47 46,ao 48 0 47,aZ 49 4 48,ao 50 0 5,aq 51 50,aK 52 140 [49,51],aA 53 .geq 52 0,aa 45 53]) <|
  .cond (.tmp 45) (au [aa 54 0,aZ 55 2 5,cH 56 126 [(.tmp 54),(.tmp 55),(.val (.val (.int .i64 7)))]]) (.seq (au [aa 58 0,br 59 58,ao 60 0 59,aZ 61 4 60,ao 62 0 5,aq 63 62,aK 64 125 [61,63],aA 65 .geq 64 0,aa 57 65]) <|
  .cond (.tmp 57) (.skip) (.seq (au [aa 67 0,br 68 67,ao 69 0 68,ao 70 1 69,aq 71 70,aQ 72 71,aA 73 .eql 72 16,aa 66 73]) <|
  .cond (.tmp 66) (au [aa 74 0,aZ 75 2 5,cH 76 126 [(.tmp 74),(.tmp 75),(.val (.val (.int .i64 5)))]]) (.region [] [⟨none,[aa 24 0,aa 25 0,br 26 25,ao 27 0 26,ao 28 1 27,aq 29 28,ao 30 0 5,aq 31 30,((some 32),.op (.bE 1 1 [(.val (.string ⟨#[]⟩))] [(0,(.tmp 31))])),((some 33),.op (.app 1 16 (.tmp 29) (.tmp 32))),br 34 24,ao 35 0 34,ao 36 1 35,(none,.op (.store 1 (.tmp 36) (.tmp 33)))]⟩]))))))) <|
  au [aa 17 4,aA 18 .add 17 1,aa 4 18]
def iw:DF:=⟨.seq (au [aI 4 0]) <|
  .block 0 (.loop nB),
  [],77⟩
theorem mN:bt Tryz.prog 123 []=some iw:=by kernel_rfl
def yZ:List (FuncId × DF):=[(41,m3),(70,lD),(120,kW),(176,np),(215,nP),(216,mZ),(217,nd),(218,kA),(234,kS),(177,pb),(219,oC),(178,nN),(193,lL),(192,lH),(191,kq),(220,j9),(221,kb),(222,mO),(121,oV),(182,im),(181,gS),(223,iq),(224,jm),(180,iu),(183,ib),(179,gT),(71,lN),(124,jn),(139,lK),(142,nj),(126,jr),(185,hU),(125,nJ),(140,mL),(226,gw),(122,iR),(184,gW),(225,nR),(123,iw)]
theorem Ga:pG Tryz.prog yZ:=by
  intro p hp
  simp only[yZ,List.mem_cons,List.not_mem_nil,or_false] at hp
  rcases hp with rfl | rfl | rfl | rfl | rfl | rfl | rfl | rfl | rfl | rfl | rfl | rfl | rfl | rfl | rfl | rfl | rfl | rfl | rfl | rfl | rfl | rfl | rfl | rfl | rfl | rfl | rfl | rfl | rfl | rfl | rfl | rfl | rfl | rfl | rfl | rfl | rfl | rfl | rfl
  · exact ⟨_,qU⟩
  · exact ⟨_,qF⟩
  · exact ⟨_,pc⟩
  · exact ⟨_,rl⟩
  · exact ⟨_,su⟩
  · exact ⟨_,rJ⟩
  · exact ⟨_,rA⟩
  · exact ⟨_,ph⟩
  · exact ⟨_,pg⟩
  · exact ⟨_,tn⟩
  · exact ⟨_,tq⟩
  · exact ⟨_,sg⟩
  · exact ⟨_,qA⟩
  · exact ⟨_,qa⟩
  · exact ⟨_,oX⟩
  · exact ⟨_,oG⟩
  · exact ⟨_,oE⟩
  · exact ⟨_,qK⟩
  · exact ⟨_,tw⟩
  · exact ⟨_,lY⟩
  · exact ⟨_,lq⟩
  · exact ⟨_,l7⟩
  · exact ⟨_,nr⟩
  · exact ⟨_,l8⟩
  · exact ⟨_,mc⟩
  · exact ⟨_,lx⟩
  · exact ⟨_,qk⟩
  · exact ⟨_,nz⟩
  · exact ⟨_,qy⟩
  · exact ⟨_,qZ⟩
  · exact ⟨_,nt⟩
  · exact ⟨_,lZ⟩
  · exact ⟨_,rP⟩
  · exact ⟨_,rL⟩
  · exact ⟨_,kG⟩
  · exact ⟨_,nh⟩
  · exact ⟨_,lr⟩
  · exact ⟨_,sL⟩
  · exact ⟨_,mN⟩
def wv (l:List Int):V:=.aN (l.map fun x=>[gy x])
theorem Hb (l:List Int):Tree (wv l):=eM _ _ fun x _ v hv=>by simp at hv; subst hv; exact .val _
def oq (g:al):V:=.bg [.agg (av g),.val (.complex .f64 0 0),gi 0]
theorem DZ {l:List Int} {g:al} (h:rG Tryz.prog yZ (fun _ _ _=>none) 41 [wv l]=some (oq g)):cr Tryz.prog 41 [wv l] (oq g) :=
  og mixed Ga (E6 _) (by intro v hv; simp at hv; subst hv; exact Hb _) h
end Gv
set_option linter.unusedSimpArgs false
namespace Gv
open Go
abbrev cZ (κ:Type):=List (κ × V × Nat)
def cE {κ:Type} (key:κ→Value) (m:cZ κ):List (V × V × Nat):=m.map fun x=>(.val (key x.1),x.2.1,x.2.2)
def getM {κ:Type} [BEq κ] (m:cZ κ) (k:κ):Option V:=(m.find? fun x=>k == x.1).map (·.2.1)
def cA {κ:Type} [BEq κ] (k:κ) (v:V) (c:Nat):cZ κ→cZ κ
  | []=>[(k,v,c)]
  | x :: r=>if k == x.1 then (k,v,x.2.2) :: r else x :: cA k v c r
structure zm {κ:Type} [BEq κ] (P:Program) (kt:TypeId) (key:κ→Value):Prop where
  ty:∃ d,P.underlying kt=some d∧(∀ a b,Instr.sameNow d (key a) (key b)=some (a == b))∧(∀ a e,bp P (Instr.checkKey e 10000 kt (key a))=some ())
  bits:∀ a b,(a == b)=true→Instr.sameBits 10000 (key b) (key a)=true
theorem rr {κ:Type} (key:κ→Value):∀ m:cZ κ,gM (cE key m)=some (m.map fun x=>{ key:=key x.1,val:=.nilFunc,born:=x.2.2 })
  | []=>rfl
  | x :: r=>by
    have:=rr key r
    simp only[cE] at this
    simp[cE,gM,ch,this]
def iI {κ:Type} [BEq κ] (k:κ):cZ κ→Option Nat
  | []=>none
  | x :: r=>if k == x.1 then some 0 else (iI k r).map (·+1)
theorem vD {κ:Type} [BEq κ] {key:κ→Value} {d:TypeDesc} (h:∀ a b,Instr.sameNow d (key a) (key b)=some (a == b)) (k:κ):∀ (m:cZ κ) (i:Nat),
    Instr.findNow d (key k) (m.map fun x=>{ key:=key x.1,val:=.nilFunc,born:=x.2.2 }) i=some ((iI k m).map fun j=>(i+j,.nilFunc))
  | [],i=>rfl
  | x :: r,i=>by
    simp only[List.map_cons,Instr.findNow,h,iI]
    cases hk:k == x.1 with
    | true=>simp
    | false =>
      simp only[vD h k r (i+1),Bool.false_eq_true,if_false,Option.map_map]
      congr 2
      funext j
      simp only[Function.comp]
      congr 1
      omega
theorem uD {κ:Type} [BEq κ] {P:Program} {kt:TypeId} {key:κ→Value} (h:zm P kt key) (k:κ) (e:Bool) (m:cZ κ):kI P kt (.val (key k)) e (cE key m)=some (iI k m):=by
  obtain ⟨d,hd,hn,hc⟩:=h.ty
  have hu:bp P (underlying kt)=some d:=dA hd
  simp only[kI,ch,rr,bh,hc,Option.bind_some]
  have:bp P (Instr.findKey kt (key k) (m.map fun x=>{ key:=key x.1,val:=.nilFunc,born:=x.2.2 }))=some ((iI k m).map fun j=>(0+j,.nilFunc)):=by
    unfold Instr.findKey
    rw[bh,hu,Option.bind_some,vD hn]
    rfl
  rw[this]
  cases iI k m with
  | none=>rfl
  | some j=>simp
theorem E3 {P:Program} {kt:TypeId} {d:TypeDesc} (h:P.underlying kt=some d) (hd:match d with | .int _ | .string | .bool=>True | _=>False) (e:Bool) (n:Nat) (v:Value):bp P (Instr.checkKey e (n+1) kt v)=some ():=by
  unfold Instr.checkKey
  rw[bh,dA h,Option.bind_some]
  cases d <;> first | exact hd.elim | rfl
theorem ga {P:Program} {kt:TypeId} (k:IntKind) (h:P.underlying kt=some (.int k)):zm P kt (Value.int k) where
  ty:=⟨_,h,fun a b=>by simp[Instr.sameNow],fun a e=>E3 h trivial e 9999 _⟩
  bits:=fun a b hab=>by
    have:a=b:=by simpa using hab
    subst this
    simp[Instr.sameBits]
theorem sG {κ:Type} [BEq κ] {key:κ→Value} (k:κ):∀ m:cZ κ,match iI k m with
    | some i=>∃ x,m[i]?=some x∧(k == x.1)=true∧getM m k=some x.2.1∧(cE key m)[i]?=some (.val (key x.1),x.2.1,x.2.2)∧∀ v c,(cE key m).set i (.val (key k),v,x.2.2)=cE key (cA k v c m)∧(cA k v c m).length=m.length
    | none=>getM m k=none∧∀ v c,cE key m ++ [(.val (key k),v,c)]=cE key (cA k v c m)∧(cA k v c m).length=m.length+1
  | []=>⟨rfl,fun v c=>⟨rfl,rfl⟩⟩
  | x :: r=>by
    have ih:=sG (key:=key) k r
    simp only[iI]
    cases hk:k == x.1 with
    | true=>exact ⟨x,rfl,hk,by simp[getM,hk],rfl,fun v c=>by simp[cA,hk,cE]⟩
    | false =>
      simp only[Bool.false_eq_true,if_false]
      cases hi:iI k r with
      | some i =>
        rw[hi] at ih
        obtain ⟨y,h1,h2,h3,h4,h5⟩:=ih
        refine ⟨y,by simpa using h1,h2,by simpa [getM,hk] using h3,by simpa [cE] using h4,fun v c=>?_⟩
        obtain ⟨g1,g2⟩:=h5 v c
        exact ⟨by simp only[cE] at g1 ⊢; simp[cA,hk,g1],by simp[cA,hk,g2]⟩
      | none =>
        rw[hi] at ih
        refine ⟨by simpa [getM,hk] using ih.1,fun v c=>?_⟩
        obtain ⟨g1,g2⟩:=ih.2 v c
        exact ⟨by simp only[cE] at g1 ⊢; simp[cA,hk,g1],by simp[cA,hk,g2]⟩
section
variable {P:Program} {T:Env} {H:View} {κ:Type} [BEq κ] {key:κ→Value} {kt et t ty:TypeId}
theorem u7 {K:V→View→Prop} {w:cm (T,H,K)} {x i:Operand} {z:V} {id c:Nat} {m:cZ κ} {k:κ} (hm:dV P t=some (kt,et)) (hz:zeroV P et=some z) (hk:zm P kt key)
    (hx:ev T x=.mp id) (hi:ev T i=.val (key k)) (hH:H id=.map (cE key m) c) (h:K ((getM m k).getD z) H):mz P (.lookup t x i false) ty T H K w:=by
  intro n _
  have hf:=uD hk k (cE key m).isEmpty m
  have hg:=sG (key:=key) k m
  refine ⟨(getM m k).getD z,.none,[id],?_,h⟩
  simp only[sI,bM,oper,dU,hm,hz,hx,hi,hH,hf]
  cases hj:iI k m with
  | some j =>
    rw[hj] at hg
    obtain ⟨y,h1,h2,h3,h4,_⟩:=hg
    simp[h4,h3]
  | none =>
    rw[hj] at hg
    simp[hg.1]
theorem KC {K:V→View→Prop} {w:cm (T,H,K)} {x i:Operand} {z:V} {id c:Nat} {m:cZ κ} {k:κ} (hm:dV P t=some (kt,et)) (hz:zeroV P et=some z) (hk:zm P kt key)
    (hx:ev T x=.mp id) (hi:ev T i=.val (key k)) (hH:H id=.map (cE key m) c) (h:K (.bg [(getM m k).getD z,.val (.bool (getM m k).isSome)]) H):mz P (.lookup t x i true) ty T H K w:=by
  intro n _
  have hf:=uD hk k (cE key m).isEmpty m
  have hg:=sG (key:=key) k m
  refine ⟨_,.none,[id],?_,h⟩
  simp only[sI,bM,oper,dU,hm,hz,hx,hi,hH,hf]
  cases hj:iI k m with
  | some j =>
    rw[hj] at hg
    obtain ⟨y,h1,h2,h3,h4,_⟩:=hg
    simp[h4,h3]
  | none =>
    rw[hj] at hg
    simp[hg.1]
theorem I3 (hk:zm P kt key) (k k':κ) (h:(k == k')=true):sameKey (.val (key k')) (.val (key k))=true:=by
  simp only[sameKey,ch]; exact hk.bits _ _ h
theorem uV {K:V→View→Prop} {w:cm (T,H,K)} {x i y:Operand} {id c:Nat} {m:cZ κ} {k:κ} {v:V} (hm:dV P t=some (kt,et)) (hk:zm P kt key)
    (hx:ev T x=.mp id) (hi:ev T i=.val (key k)) (hy:ev T y=v) (hH:H id=.map (cE key m) c)
    (h:∀ c',K .any (H.set id (.map (cE key (cA k v c m)) c'))):mz P (.mapUpdate t x i y) ty T H K w:=by
  intro n _
  have hf:=uD hk k false m
  have hg:=sG (key:=key) k m
  cases hj:iI k m with
  | some j =>
    rw[hj] at hg hf
    obtain ⟨z,h1,h2,h3,h4,h5⟩:=hg
    refine ⟨.any,.eQ id (.map ((cE key m).set j (.val (key k),v,z.2.2)) c),[id],?_,?_⟩
    · simp only[sI,bM,oper,ed,hm,hx,hi,hy,hH,hf,h4,I3 hk k z.1 h2,if_true]
    · rw[(h5 v c).1]; exact h c
  | none =>
    rw[hj] at hg hf
    refine ⟨.any,.eQ id (.map (cE key m ++ [(.val (key k),v,c)]) (c+1)),[id],?_,?_⟩
    · simp only[sI,bM,oper,ed,hm,hx,hi,hy,hH,hf]
    · rw[(hg.2 v c).1]; exact h (c+1)
theorem Lz {P:Program} {T:Env} {H:View} {t ty:TypeId} {x i y:Operand} {K:V→View→Prop} {w:cm (T,H,K)} : mz P (.insert t x i y) ty T H K w=mz P (.mapUpdate t x i y) ty T H K w:=propext Iff.rfl
omit [BEq κ] in
theorem L1 {K:V→View→Prop} {w:cm (T,H,K)} {x:Operand} {id c:Nat} {m:cZ κ} (hm:dV P t=some (kt,et)) (hx:ev T x=.mp id) (hH:H id=.map (cE key m) c) (h:K (aj m.length) H) :
    mz P (.call { callee:=.builtin .len,args:=#[x],argTypes:=#[t] }) ty T H K w:=by
  intro n _
  have hu:∃ a b,P.underlying t=some (.map a b):=by
    unfold dV at hm
    split at hm
    · rename_i a b h1; exact ⟨a,b,h1⟩
    · simp at hm
  obtain ⟨a,b,hu⟩:=hu
  refine ⟨aj m.length,.none,[id],?_,h⟩
  have hl:(cE key m).length=m.length:=by simp[cE]
  simp only[sI,bM,oper,List.size_toArray,List.length_cons,List.length_nil,qb,hu,hx,hH,hl]
  simp[hu,hx,hH,hl,qb]
end
theorem wg {κ:Type} [BEq κ] [LawfulBEq κ] (k k':κ) (v:V) (c:Nat):∀ m:cZ κ,getM (cA k v c m) k'=if k' == k then some v else getM m k'
  | []=>by
    by_cases h:k'=k
    · subst h; simp[cA,getM]
    · simp[cA,getM,h]
  | x :: r=>by
    have ih:=wg k k' v c r
    simp only[cA]
    by_cases hk:k=x.1
    · by_cases h:k'=k
      · subst h; simp[hk,getM]
      · have:¬ k'=x.1:=fun e=>h (e.trans hk.symm)
        simp[hk,getM,this]
    · simp only[beq_iff_eq,hk,if_false]
      by_cases h:k'=x.1
      · have:¬ k'=k:=fun e=>hk (e.symm.trans h)
        simp[getM,h]
        subst h
        simp[this]
      · simp only[getM,List.find?_cons,beq_eq_false_iff_ne.2 h] at ih ⊢
        exact ih
def c3 {κ β:Type} [BEq κ] (a:List (κ × β)) (k:κ):Option β:=(a.find? fun x=>k == x.1).map (·.2)
def hO {κ β:Type} [BEq κ] (k:κ) (v:β):List (κ × β)→List (κ × β)
  | []=>[(k,v)]
  | x :: r=>if k == x.1 then (k,v) :: r else x :: hO k v r
def lg {κ β:Type} (encV:β→V):List (κ × β)→cZ κ→Prop
  | [],[]=>True
  | x :: a,y :: m=>y.1=x.1∧y.2.1=encV x.2∧lg encV a m
  | _,_=>False
theorem lg.get {κ β:Type} [BEq κ] {encV:β→V} (k:κ):∀ {a:List (κ × β)} {m:cZ κ},lg encV a m→getM m k=(c3 a k).map encV
  | [],[],_=>rfl
  | x :: a,y :: m,⟨h1,h2,h3⟩=>by
    have ih:=lg.get k h3
    simp only[getM,c3,List.find?_cons,h1] at ih ⊢
    cases k == x.1 with
    | true=>simp[h2]
    | false=>simpa using ih
theorem lg.put {κ β:Type} [BEq κ] {encV:β→V} (k:κ) (v:β) (c:Nat):∀ {a:List (κ × β)} {m:cZ κ},lg encV a m→lg encV (hO k v a) (cA k (encV v) c m)
  | [],[],_=>⟨rfl,rfl,trivial⟩
  | x :: a,y :: m,⟨h1,h2,h3⟩=>by
    have ih:=lg.put k v c h3
    simp only[hO,cA,h1]
    cases k == x.1 with
    | true=>exact ⟨rfl,rfl,h3⟩
    | false=>exact ⟨h1,h2,ih⟩
theorem lg.len {κ β:Type} {encV:β→V} : ∀ {a:List (κ × β)} {m:cZ κ},lg encV a m→m.length=a.length
  | [],[],_=>rfl
  | x :: a,y :: m,⟨_,_,h3⟩=>by simp[lg.len h3]
theorem BZ {κ β:Type} [BEq κ] [LawfulBEq κ] (k k':κ) (v:β):∀ a:List (κ × β),c3 (hO k v a) k'=if k' == k then some v else c3 a k'
  | []=>by
    by_cases h:k'=k
    · subst h; simp[hO,c3]
    · simp[hO,c3,h]
  | x :: r=>by
    have ih:=BZ k k' v r
    simp only[hO]
    by_cases hk:k=x.1
    · by_cases h:k'=k
      · subst h; simp[hk,c3]
      · have:¬ k'=x.1:=fun e=>h (e.trans hk.symm)
        simp[hk,c3,this]
    · simp only[beq_iff_eq,hk,if_false]
      by_cases h:k'=x.1
      · have:¬ k'=k:=fun e=>hk (e.symm.trans h)
        simp[c3,h]
        subst h
        simp[this]
      · simp only[c3,List.find?_cons,beq_eq_false_iff_ne.2 h] at ih ⊢
        exact ih
def Ex (n k:Nat) (J:Nat→Env→View→Prop) (T:Env) (H:View):Prop:=∃ i,i+k=n∧J i T H
theorem bw.up {P:Program} {T:Env} {H:View} {c:SC} {Q:Exit→Env→View→Prop} {v:cm (T,H,Q)} (n:Nat) (J:Nat→Env→View→Prop) (h0:J 0 T H)
    (hs:∀ i k T H,i+k=n→J i T H→wS P c T H fun e T' H'=>xd e (∃ k',k' < k∧Ex n k' J T' H') (Q e T' H')):bw P c T H Q v :=
  bw.intro (fun k T H=>Ex n k J T H) n ⟨0,by omega,h0⟩ fun k T H ⟨i,hk,hj⟩=>hs i k T H hk hj
theorem aT {n i k:Nat} {J:Nat→Env→View→Prop} {T:Env} {H:View} (hk:i+k=n) (hlt:i < n) (hJ:J (i+1) T H):∃ k',k' < k∧Ex n k' J T H:=⟨k - 1,by omega,i+1,by omega,hJ⟩
end Gv
