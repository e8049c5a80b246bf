/-
  Part 8 of the proof: what the machine does and what the functions answer.
  Conditions: those that each lemma names.
-/
import Derived.Test.YtgniimkconobpaaGreatSGzKG
set_option linter.unusedSimpArgs false
set_option linter.unusedVariables false
set_option linter.unusedSimpArgs false
set_option maxRecDepth 100000
namespace Gv
open Go Go.Proofs
def mb:DF:=⟨.seq (ax [((some 2),.op (.alloc [(.emp 1),(.emp 1),(.emp 1),(.val (.int .i64 0))])),((some 3),.op (.bu (.val (.val (.complex .f64 0 0))))),aH 4 0]) <|
  .seq (ax [aa 9 0,aG 10 51 [9],aa 8 10,bQ 11 0 8,bQ 12 1 8,bQ 13 2 8,((some 5),.op (.alloc [(.emp 1),(.emp 1)])),(none,.op (.store 2 (.tmp 5) (.tmp 11))),aa 6 12,aa 7 13]) <|
  .seq (.seq (ax [aa 14 7,ay 15 .neq 14 0]) <|
  .cond (.tmp 15) (.seq (ax [((some 16),.op (.build [(.emp 1),(.emp 1),(.emp 1),(.val (.int .i64 0))] [])),aa 17 6,aa 18 7,(none,.op (.store 4 (.tmp 2) (.tmp 16))),aa 3 17,aa 4 18]) <|
  .ret) (.skip)) <|
  .seq (ax [aM 19 2 5,aG 20 52 [19],bQ 21 0 20,bQ 22 1 20,bQ 23 2 20,(none,.op (.store 4 (.tmp 2) (.tmp 21))),aa 3 22,aa 4 23]) <|
  .ret,
  [.cell 2 (some 4),.tmp 3,.tmp 4],24⟩
theorem qO:bC Tryz.prog 33 []=some mb:=by kernel_rfl
def lu:DF:=⟨.seq (ax [((some 2),.op (.alloc [(.emp 1),(.emp 1)])),((some 3),.op (.bu (.val (.val (.complex .f64 0 0))))),aH 4 0]) <|
  .seq (ax [aa 9 0,aG 10 90 [9],aa 8 10,bQ 11 0 8,bQ 12 1 8,bQ 13 2 8,aa 5 11,aa 6 12,aa 7 13]) <|
  .seq (.seq (ax [aa 14 7,ay 15 .neq 14 0]) <|
  .cond (.tmp 15) (.seq (ax [((some 16),.op (.build [(.emp 1),(.emp 1)] [])),aa 17 6,aa 18 7,(none,.op (.store 2 (.tmp 2) (.tmp 16))),aa 3 17,aa 4 18]) <|
  .ret) (.skip)) <|
  .seq (ax [aa 19 5,aa 20 6,aG 21 91 [19,20],bQ 22 0 21,bQ 23 1 21,bQ 24 2 21,(none,.op (.store 2 (.tmp 2) (.tmp 22))),aa 3 23,aa 4 24]) <|
  .ret,
  [.cell 2 (some 2),.tmp 3,.tmp 4],25⟩
theorem qb:bC Tryz.prog 51 []=some lu:=by kernel_rfl
def pT:DC :=
  .seq (.seq (.region [] [⟨none,[aa 16 6,aa 17 0,aL 18 17,bb 19 .lss 16 18,aa 20 19]⟩,⟨(some (20,true)),[aa 21 7,ay 22 .lss 21 2]⟩,⟨none,[br 23 20 22]⟩]) <|
  .cond (.tmp 23) (.skip) (.exit 0)) <|
  .block 1 (.seq (ax [aa 25 0,aa 26 6,aG 27 131 [25,26],aa 24 27,bQ 28 0 24,bQ 29 1 24,aa 8 28,aa 9 29]) <|
  .seq (.seq (ax [aa 30 8,ay 31 .lss 30 0]) <|
  .cond (.tmp 31) (.seq (ax [aa 32 0,aa 33 6,aG 34 132 [32,33],((some 2),.op (.bu (.val (.emp 1)))),aa 3 34,aH 4 4]) <|
  .ret) (.skip)) <|
  .seq (.seq (ax [aa 35 9]) <|
  .cond (.tmp 35) (.seq (ax [aa 36 8,aa 6 36]) <|
  .exit 1) (.skip)) <|
  .seq (.region [] [⟨none,[aa 38 0,aa 39 6,aG 40 133 [38,39],aa 37 40,bQ 41 0 37,bQ 42 1 37,bQ 43 2 37,((some 10),.op (.alloc [(.val (.int .i64 0)),(.val (.string ⟨#[]⟩)),(.val (.complex .f64 0 0))])),(none,.op (.store 3 (.tmp 10) (.tmp 41))),aa 11 42,aa 12 43]⟩]) <|
  .seq (.seq (ax [aa 44 12,ay 45 .neq 44 0]) <|
  .cond (.tmp 45) (.seq (ax [ar 46 2 10,an 47 46,aa 48 12,((some 2),.op (.bu (.val (.emp 1)))),aa 3 47,aa 4 48]) <|
  .ret) (.skip)) <|
  .seq (.seq (ax [ar 49 0 10,an 50 49,ay 51 .eql 50 9]) <|
  .cond (.tmp 51) (ax [aa 52 7,ay 53 .add 52 1,aa 7 53]) (.skip)) <|
  .region [] [⟨none,[aa 54 5,aM 55 3 10,((some 56),.op (.bH 1 3 [(.val (.int .i64 0)),(.val (.string ⟨#[]⟩)),(.val (.complex .f64 0 0))] [(0,(.tmp 55))])),((some 57),.op (.app 3 40 (.tmp 54) (.tmp 56))),aa 58 11,aa 5 57,aa 6 58]⟩])
def kR:DF:=⟨.seq (ax [((some 2),.op (.bu (.val (.emp 1)))),((some 3),.op (.bu (.val (.val (.complex .f64 0 0))))),aH 4 0]) <|
  .seq (.seq (ax [aa 13 0,aL 14 13,ay 15 .gtr 14 4000]) <|
  .cond (.tmp 15) (.seq (ax [((some 2),.op (.bu (.val (.emp 1)))),((some 3),.op (.bu (.val (.val (.complex .f64 0 0))))),aH 4 5]) <|
  .ret) (.skip)) <|
  .seq (ax [((some 5),.op (.bu (.val (.emp 1))))]) <|
  .seq (ax [aH 6 0,aH 7 0]) <|
  .seq (.block 0 (.loop pT)) <|
  .seq (ax [aa 59 5,aa 60 0,aa 61 0,aL 62 61,aG 63 132 [60,62],aa 2 59,aa 3 63,aH 4 0]) <|
  .ret,
  [.tmp 2,.tmp 3,.tmp 4],64⟩
theorem oW:bC Tryz.prog 90 []=some kR:=by kernel_rfl
def mT:DF:=⟨.seq (ax [aH 4 0,aU 5 false]) <|
  .seq (.block 0 (.seq (.region [] [⟨none,[aa 7 0,aa 8 1,aN 9 1 7 8,an 10 9,((some 11),.op (.arith .eql (.tmp 10) (.val (.val (.int .u8 32))))),aa 12 11]⟩,⟨(some (12,false)),[aa 13 0,aa 14 1,aN 15 1 13 14,an 16 15,((some 17),.op (.arith .eql (.tmp 16) (.val (.val (.int .u8 9)))))]⟩,⟨none,[bt 18 12 17,aa 19 18]⟩,⟨(some (19,false)),[aa 20 0,aa 21 1,aN 22 1 20 21,an 23 22,((some 24),.op (.arith .eql (.tmp 23) (.val (.val (.int .u8 10)))))]⟩,⟨none,[bt 25 19 24,aa 26 25]⟩,⟨(some (26,false)),[aa 27 0,aa 28 1,aN 29 1 27 28,an 30 29,((some 31),.op (.arith .eql (.tmp 30) (.val (.val (.int .u8 13)))))]⟩,⟨none,[bt 32 26 31,aa 6 32]⟩]) <|
  .cond (.tmp 6) (.seq (ax [aa 33 1,ay 34 .add 33 1,aa 4 34,aU 5 true]) <|
  .ret) (.seq (.region [] [⟨none,[aa 36 0,aa 37 1,cG 38 159 [(.tmp 36),(.tmp 37),(.val (.val (.string ⟨#[47,42]⟩)))],aa 35 38]⟩]) <|
  .cond (.tmp 35) (.seq (.region [] [⟨none,[aa 39 0,aa 40 1,ay 41 .add 40 2,cG 42 160 [(.tmp 39),(.tmp 41),(.val (.val (.string ⟨#[42,47]⟩)))],aa 4 42,aU 5 true]⟩]) <|
  .ret) (.seq (.region [] [⟨none,[aa 44 0,aa 45 1,cG 46 159 [(.tmp 44),(.tmp 45),(.val (.val (.string ⟨#[47,47]⟩)))],aa 43 46]⟩]) <|
  .cond (.tmp 43) (.seq (ax [aa 47 0,aa 48 1,aG 49 161 [47,48],aa 4 49,aU 5 true]) <|
  .ret) (.seq (.region [] [⟨none,[aa 51 0,aa 52 1,cG 53 159 [(.tmp 51),(.tmp 52),(.val (.val (.string ⟨#[37,123]⟩)))],aa 50 53]⟩]) <|
  .cond (.tmp 50) (.seq (.region [] [⟨none,[aa 54 0,aa 55 1,ay 56 .add 55 2,cG 57 160 [(.tmp 54),(.tmp 56),(.val (.val (.string ⟨#[37,125]⟩)))],aa 4 57,aU 5 true]⟩]) <|
  .ret) (.seq (ax [aa 59 0,aa 60 1,aN 61 1 59 60,an 62 61,((some 63),.op (.arith .eql (.tmp 62) (.val (.val (.int .u8 60))))),aa 58 63]) <|
  .cond (.tmp 58) (.seq (.region [] [⟨none,[aa 64 0,aa 65 0,aa 66 1,aG 67 161 [65,66],((some 68),.op (.slice 1 (.tmp 64) none (some (.tmp 67)))),aa 69 1,ay 70 .add 69 1,cG 71 160 [(.tmp 68),(.tmp 70),(.val (.val (.string ⟨#[62]⟩)))],aa 4 71,aU 5 true]⟩]) <|
  .ret) (.seq (ax [aa 73 0,aa 74 1,aN 75 1 73 74,an 76 75,((some 77),.op (.arith .eql (.tmp 76) (.val (.val (.int .u8 123))))),aa 72 77]) <|
  .cond (.tmp 72) (.seq (ax [aa 78 0,aa 79 1,aG 80 162 [78,79],aa 4 80,aU 5 true]) <|
  .ret) (.skip)))))))) <|
  .seq (ax [aa 81 1,aa 4 81,aU 5 false]) <|
  .ret,
  [.tmp 4,.tmp 5],82⟩
theorem qR:bC Tryz.prog 131 []=some mT:=by kernel_rfl
def nD:DF:=⟨.seq (ax [aU 6 false]) <|
  .seq (.region [] [⟨none,[aa 7 1,aa 8 2,((some 9),.op (.fC (.tmp 8))),bb 10 .add 7 9,aa 11 0,aL 12 11,bb 13 .leq 10 12,aa 14 13]⟩,⟨(some (14,true)),[aa 15 0,aa 16 1,aa 17 1,aa 18 2,((some 19),.op (.fC (.tmp 18))),bb 20 .add 17 19,((some 21),.op (.slice 1 (.tmp 15) (some (.tmp 16)) (some (.tmp 20)))),((some 22),.op (.bm (.convert 57 9 (.tmp 21)) 9)),aa 23 2,((some 24),.op (.hO .eql (.tmp 22) (.tmp 23)))]⟩,⟨none,[br 25 14 24,aa 6 25]⟩]) <|
  .ret,
  [.tmp 6],26⟩
theorem rC:bC Tryz.prog 159 []=some nD:=by kernel_rfl
def rm:DC :=
  .seq (.seq (ax [aa 7 1,aa 8 0,aL 9 8,bb 10 .lss 7 9]) <|
  .cond (.tmp 10) (.skip) (.exit 0)) <|
  .block 1 (.seq (.seq (ax [aa 11 0,aa 12 1,aa 13 2,aG 14 159 [11,12,13]]) <|
  .cond (.tmp 14) (.seq (ax [aa 15 1,aa 16 2,((some 17),.op (.fC (.tmp 16))),bb 18 .add 15 17,aa 6 18]) <|
  .ret) (.skip)) <|
  ax [aa 19 1,ay 20 .add 19 1,aa 1 20])
def mj:DF:=⟨.seq (ax [aH 6 0]) <|
  .seq (.block 0 (.loop rm)) <|
  .seq (ax [aH 6 (-1)]) <|
  .ret,
  [.tmp 6],21⟩
theorem qX:bC Tryz.prog 160 []=some mj:=by kernel_rfl
def rq:DC :=
  .seq (.seq (.region [] [⟨none,[aa 5 1,aa 6 0,aL 7 6,bb 8 .lss 5 7,aa 9 8]⟩,⟨(some (9,true)),[aa 10 0,aa 11 1,aN 12 1 10 11,an 13 12,((some 14),.op (.arith .neq (.tmp 13) (.val (.val (.int .u8 10)))))]⟩,⟨none,[br 15 9 14]⟩]) <|
  .cond (.tmp 15) (.skip) (.exit 0)) <|
  .block 1 (ax [aa 16 1,ay 17 .add 16 1,aa 1 17])
def mS:DF:=⟨.seq (ax [aH 4 0]) <|
  .seq (.block 0 (.loop rq)) <|
  .seq (ax [aa 18 1,aa 4 18]) <|
  .ret,
  [.tmp 4],19⟩
theorem qA:bC Tryz.prog 161 []=some mS:=by kernel_rfl
def qh:DC :=
  .seq (.seq (.region [] [⟨none,[aa 6 1,ay 7 .geq 6 0,aa 8 7]⟩,⟨(some (8,true)),[aa 9 1,aa 10 0,aL 11 10,bb 12 .lss 9 11]⟩,⟨none,[br 13 8 12]⟩]) <|
  .cond (.tmp 13) (.skip) (.exit 0)) <|
  .block 1 (.seq (.seq (ax [aa 14 0,aa 15 1,aN 16 1 14 15,an 17 16]) <|
  .block 2 (.seq (ax [((some 21),.op (.arith .eql (.tmp 17) (.val (.val (.int .u8 123))))),aa 20 21]) <|
  .cond (.tmp 20) (.seq (ax [aa 22 5,ay 23 .add 22 1,aa 5 23]) <|
  ax [aa 24 1,ay 25 .add 24 1,aa 1 25]) (.seq (ax [((some 27),.op (.arith .eql (.tmp 17) (.val (.val (.int .u8 125))))),aa 26 27]) <|
  .cond (.tmp 26) (.seq (ax [aa 28 5,ay 29 .sub 28 1,aa 5 29]) <|
  ax [aa 30 1,ay 31 .add 30 1,aa 1 31]) (.seq (.seq (ax [((some 33),.op (.arith .eql (.tmp 17) (.val (.val (.int .u8 39))))),aa 32 33]) <|
  .cond (.tmp 32) (.skip) (ax [((some 34),.op (.arith .eql (.tmp 17) (.val (.val (.int .u8 34))))),aa 32 34])) <|
  .cond (.tmp 32) (ax [aa 35 0,aa 36 1,aG 37 178 [35,36],aa 1 37]) (ax [aa 18 1,ay 19 .add 18 1,aa 1 19]))))) <|
  .seq (.region [] [⟨none,[aa 38 5,ay 39 .eql 38 0,aa 40 39]⟩,⟨(some (40,true)),[aa 41 1,ay 42 .geq 41 0]⟩,⟨none,[br 43 40 42]⟩]) <|
  .cond (.tmp 43) (.seq (ax [aa 44 1,aa 4 44]) <|
  .ret) (.skip))
def kk:DF:=⟨.seq (ax [aH 4 0]) <|
  .seq (ax [aH 5 0]) <|
  .seq (.block 0 (.loop qh)) <|
  .seq (ax [aH 4 (-1)]) <|
  .ret,
  [.tmp 4],45⟩
theorem oX:bC Tryz.prog 162 []=some kk:=by kernel_rfl
def pY:DC :=
  .seq (.seq (ax [aa 12 1,aa 13 0,aL 14 13,bb 15 .lss 12 14]) <|
  .cond (.tmp 15) (.skip) (.exit 0)) <|
  .block 1 (.seq (.seq (ax [aa 16 0,aa 17 1,aN 18 1 16 17,an 19 18,aa 20 5,bb 21 .eql 19 20]) <|
  .cond (.tmp 21) (.seq (ax [aa 22 1,ay 23 .add 22 1,aa 4 23]) <|
  .ret) (.skip)) <|
  .seq (.seq (ax [aa 24 0,aa 25 1,aN 26 1 24 25,an 27 26,((some 28),.op (.arith .eql (.tmp 27) (.val (.val (.int .u8 92)))))]) <|
  .cond (.tmp 28) (ax [aa 29 1,ay 30 .add 29 1,aa 1 30]) (.skip)) <|
  ax [aa 31 1,ay 32 .add 31 1,aa 1 32])
def kH:DF:=⟨.seq (ax [aH 4 0]) <|
  .seq (ax [aa 6 0,aa 7 1,aN 8 1 6 7,an 9 8,aa 5 9]) <|
  .seq (ax [aa 10 1,ay 11 .add 10 1,aa 1 11]) <|
  .seq (.block 0 (.loop pY)) <|
  .seq (ax [aH 4 (-1)]) <|
  .ret,
  [.tmp 4],33⟩
theorem oY:bC Tryz.prog 178 []=some kH:=by kernel_rfl
def um:DC :=
  .seq (.seq (ax [aa 16 7,aa 17 1,bb 18 .lss 16 17]) <|
  .cond (.tmp 18) (.skip) (.exit 0)) <|
  .seq (.block 1 (.seq (ax [aa 21 6,ay 22 .add 21 1,aa 6 22]) <|
  .seq (ax [aa 23 0,aa 24 7,aN 25 1 23 24,an 26 25,((some 27),.op (.arith .eql (.tmp 26) (.val (.val (.int .u8 10)))))]) <|
  .cond (.tmp 27) (ax [aa 28 5,ay 29 .add 28 1,aa 5 29,aH 6 1]) (.skip))) <|
  ax [aa 19 7,ay 20 .add 19 1,aa 7 20]
def oK:DF:=⟨.seq (ax [((some 4),.op (.bu (.val (.val (.complex .f64 0 0)))))]) <|
  .seq (.seq (.region [] [⟨none,[aa 8 1,ay 9 .lss 8 0,aa 10 9]⟩,⟨(some (10,false)),[aa 11 1,aa 12 0,aL 13 12,bb 14 .gtr 11 13]⟩,⟨none,[bt 15 10 14]⟩]) <|
  .cond (.tmp 15) (.seq (ax [((some 4),.op (.bu (.val (.val (.complex .f64 0 0)))))]) <|
  .ret) (.skip)) <|
  .seq (ax [aH 5 1,aH 6 1]) <|
  .seq (.seq (ax [aH 7 0]) <|
  .block 0 (.loop um)) <|
  .seq (ax [aa 30 5,aa 31 6,aG 32 163 [30,31],aa 4 32]) <|
  .ret,
  [.tmp 4],33⟩
theorem sQ:bC Tryz.prog 132 []=some oK:=by kernel_rfl
def oM:DF:=⟨.seq (ax [((some 4),.op (.bu (.val (.val (.complex .f64 0 0)))))]) <|
  .seq (.seq (.region [] [⟨none,[aa 5 0,ay 6 .lss 5 1,aa 7 6]⟩,⟨(some (7,false)),[aa 8 0,ay 9 .gtr 8 1073741824]⟩,⟨none,[bt 10 7 9,aa 11 10]⟩,⟨(some (11,false)),[aa 12 1,ay 13 .lss 12 1]⟩,⟨none,[bt 14 11 13,aa 15 14]⟩,⟨(some (15,false)),[aa 16 1,ay 17 .gtr 16 1073741824]⟩,⟨none,[bt 18 15 17]⟩]) <|
  .cond (.tmp 18) (.seq (ax [((some 4),.op (.bu (.val (.val (.complex .f64 0 0)))))]) <|
  .ret) (.skip)) <|
  .seq (ax [aa 19 0,((some 20),.op (.bm (.convert 3 214 (.tmp 19)) 214)),aa 21 1,((some 22),.op (.bm (.convert 3 214 (.tmp 21)) 214)),((some 23),.op (.bm (.call { callee:=.builtin .complex,args:=#[(.tmp 20),(.tmp 22)],argTypes:=#[214,214] }) 54)),aa 4 23]) <|
  .ret,
  [.tmp 4],24⟩
theorem sP:bC Tryz.prog 163 []=some oM:=by kernel_rfl
def sU:DC :=
  .seq (.seq (.region [] [⟨none,[aa 27 9,aa 28 0,aL 29 28,bb 30 .lss 27 29,aa 31 30]⟩,⟨(some (31,true)),[aa 32 0,aa 33 9,aN 34 1 32 33,an 35 34,aG 36 149 [35]]⟩,⟨none,[br 37 31 36]⟩]) <|
  .cond (.tmp 37) (.skip) (.exit 1)) <|
  .block 2 (ax [aa 38 9,ay 39 .add 38 1,aa 9 39])
def sT:DC :=
  .seq (.seq (ax [aa 58 10,ay 59 .leq 58 4]) <|
  .cond (.tmp 59) (.skip) (.exit 3)) <|
  .seq (.block 4 (.seq (.region [] [⟨none,[aa 62 1,aa 63 10,bb 64 .add 62 63,aa 65 0,aL 66 65,bb 67 .leq 64 66,aa 68 67]⟩,⟨(some (68,true)),[aa 69 0,aa 70 1,aa 71 1,aa 72 10,bb 73 .add 71 72,((some 74),.op (.slice 1 (.tmp 69) (some (.tmp 70)) (some (.tmp 73)))),((some 75),.op (.bm (.convert 57 9 (.tmp 74)) 9)),aG 76 147 [75]]⟩,⟨none,[br 77 68 76]⟩]) <|
  .cond (.tmp 77) (.seq (.region [(6,8)] [⟨none,[aa 78 0,aa 79 1,aa 80 1,aa 81 10,bb 82 .add 80 81,((some 83),.op (.slice 1 (.tmp 78) (some (.tmp 79)) (some (.tmp 82)))),((some 84),.op (.bm (.convert 57 9 (.tmp 83)) 9)),ar 85 0 7,(none,.op (.store 1 (.tmp 85) (.val (.val (.int .i64 2))))),ar 86 1 7,(none,.op (.store 1 (.tmp 86) (.tmp 84)))]⟩]) <|
  .seq (ax [aM 87 3 7,aa 88 1,aa 89 10,bb 90 .add 88 89,(none,.op (.store 3 (.tmp 4) (.tmp 87))),aa 5 90,aH 6 0]) <|
  .ret) (.skip))) <|
  ax [aa 60 10,ay 61 .add 60 1,aa 10 61]
def sS:DC :=
  .seq (.seq (.region [] [⟨none,[aa 108 9,aa 109 0,aL 110 109,bb 111 .lss 108 110,aa 112 111]⟩,⟨(some (112,true)),[aa 113 0,aa 114 9,aN 115 1 113 114,an 116 115,((some 117),.op (.arith .geq (.tmp 116) (.val (.val (.int .u8 97)))))]⟩,⟨none,[br 118 112 117,aa 119 118]⟩,⟨(some (119,true)),[aa 120 0,aa 121 9,aN 122 1 120 121,an 123 122,((some 124),.op (.arith .leq (.tmp 123) (.val (.val (.int .u8 122)))))]⟩,⟨none,[br 125 119 124]⟩]) <|
  .cond (.tmp 125) (.skip) (.exit 5)) <|
  .block 6 (ax [aa 126 9,ay 127 .add 126 1,aa 9 127])
def nz:DF:=⟨.seq (.region [] [⟨none,[((some 4),.op (.alloc [(.val (.int .i64 0)),(.val (.string ⟨#[]⟩)),(.val (.complex .f64 0 0))])),aH 5 0,aH 6 0]⟩]) <|
  .seq (.region [] [⟨none,[aa 11 0,aa 12 1,aG 13 132 [11,12],((some 14),.op (.build [(.val (.int .i64 0)),(.val (.string ⟨#[]⟩)),(.val (.complex .f64 0 0))] [(2,1,(.tmp 13))])),((some 7),.op (.alloc [(.val (.int .i64 0)),(.val (.string ⟨#[]⟩)),(.val (.complex .f64 0 0))])),(none,.op (.store 3 (.tmp 7) (.tmp 14)))]⟩]) <|
  .seq (ax [aa 15 0,aa 16 1,aN 17 1 15 16,an 18 17,aa 8 18]) <|
  .seq (ax [aa 19 1,ay 20 .add 19 1,aa 9 20]) <|
  .seq (.block 0 (.seq (ax [aa 25 8,aG 26 148 [25],aa 24 26]) <|
  .cond (.tmp 24) (.seq (.block 1 (.loop sU)) <|
  .seq (.seq (ax [aa 40 9,aa 41 1,bb 42 .sub 40 41,ay 43 .gtr 42 20]) <|
  .cond (.tmp 43) (.seq (ax [aM 44 3 7,aa 45 9,(none,.op (.store 3 (.tmp 4) (.tmp 44))),aa 5 45,aH 6 5]) <|
  .ret) (.skip)) <|
  .seq (.region [(4,6)] [⟨none,[aa 46 0,aa 47 1,aa 48 9,((some 49),.op (.slice 1 (.tmp 46) (some (.tmp 47)) (some (.tmp 48)))),((some 50),.op (.bm (.convert 57 9 (.tmp 49)) 9)),ar 51 0 7,(none,.op (.store 1 (.tmp 51) (.val (.val (.int .i64 1))))),ar 52 1 7,(none,.op (.store 1 (.tmp 52) (.tmp 50)))]⟩]) <|
  .seq (ax [aM 53 3 7,aa 54 9,(none,.op (.store 3 (.tmp 4) (.tmp 53))),aa 5 54,aH 6 0]) <|
  .ret) (.seq (ax [aa 56 8,((some 57),.op (.arith .eql (.tmp 56) (.val (.val (.int .u8 39))))),aa 55 57]) <|
  .cond (.tmp 55) (.seq (.seq (ax [aH 10 3]) <|
  .block 3 (.loop sT)) <|
  .seq (.region [(0,5)] [⟨none,[aM 91 3 7,aa 92 9,aa 93 0,aa 94 1,((some 95),.op (.slice 1 (.tmp 93) (some (.tmp 94)) none)),aG 96 164 [95],(none,.op (.store 3 (.tmp 4) (.tmp 91))),aa 5 92,aa 6 96]⟩]) <|
  .ret) (.seq (.region [] [⟨none,[aa 98 0,aa 99 1,cG 100 159 [(.tmp 98),(.tmp 99),(.val (.val (.string ⟨#[37,37]⟩)))],aa 97 100]⟩]) <|
  .cond (.tmp 97) (.seq (ax [ar 101 0 7,(none,.op (.store 1 (.tmp 101) (.val (.val (.int .i64 9)))))]) <|
  .seq (ax [aM 102 3 7,aa 103 1,ay 104 .add 103 2,(none,.op (.store 3 (.tmp 4) (.tmp 102))),aa 5 104,aH 6 0]) <|
  .ret) (.seq (ax [aa 106 8,((some 107),.op (.arith .eql (.tmp 106) (.val (.val (.int .u8 37))))),aa 105 107]) <|
  .cond (.tmp 105) (.seq (.block 5 (.loop sS)) <|
  ax [aa 128 0,aa 129 1,ay 130 .add 129 1,aa 131 9,((some 132),.op (.slice 1 (.tmp 128) (some (.tmp 130)) (some (.tmp 131)))),((some 133),.op (.bm (.convert 57 9 (.tmp 132)) 9)),aG 134 165 [133],ar 135 0 7,(none,.op (.store 1 (.tmp 135) (.tmp 134)))]) (ax [aa 21 8,aG 22 166 [21],ar 23 0 7,(none,.op (.store 1 (.tmp 23) (.tmp 22)))])))))) <|
  .seq (.seq (ax [ar 136 0 7,an 137 136,ay 138 .eql 137 0]) <|
  .cond (.tmp 138) (.seq (ax [aM 139 3 7,aa 140 9,(none,.op (.store 3 (.tmp 4) (.tmp 139))),aa 5 140,aH 6 3]) <|
  .ret) (.skip)) <|
  .seq (ax [aM 141 3 7,aa 142 9,(none,.op (.store 3 (.tmp 4) (.tmp 141))),aa 5 142,aH 6 0]) <|
  .ret,
  [.cell 4 (some 3),.tmp 5,.tmp 6],143⟩
theorem rM:bC Tryz.prog 133 []=some nz:=by kernel_rfl
def ly:DF:=⟨.seq (ax [aU 2 false]) <|
  .seq (.region [] [⟨none,[aa 3 0,aG 4 148 [3],aa 5 4]⟩,⟨(some (5,false)),[aa 6 0,((some 7),.op (.arith .geq (.tmp 6) (.val (.val (.int .u8 48))))),aa 8 7]⟩,⟨(some (8,true)),[aa 9 0,((some 10),.op (.arith .leq (.tmp 9) (.val (.val (.int .u8 57)))))]⟩,⟨(some (5,false)),[br 11 8 10]⟩,⟨none,[bt 12 5 11,aa 13 12]⟩,⟨(some (13,false)),[aa 14 0,((some 15),.op (.arith .eql (.tmp 14) (.val (.val (.int .u8 46)))))]⟩,⟨none,[bt 16 13 15,aa 2 16]⟩]) <|
  .ret,
  [.tmp 2],17⟩
theorem pO:bC Tryz.prog 149 []=some ly:=by kernel_rfl
def lf:DF:=⟨.seq (ax [aU 2 false]) <|
  .seq (.region [] [⟨none,[aa 3 0,((some 4),.op (.arith .geq (.tmp 3) (.val (.val (.int .u8 97))))),aa 5 4]⟩,⟨(some (5,true)),[aa 6 0,((some 7),.op (.arith .leq (.tmp 6) (.val (.val (.int .u8 122)))))]⟩,⟨none,[br 8 5 7,aa 9 8]⟩,⟨(some (9,false)),[aa 10 0,((some 11),.op (.arith .geq (.tmp 10) (.val (.val (.int .u8 65))))),aa 12 11]⟩,⟨(some (12,true)),[aa 13 0,((some 14),.op (.arith .leq (.tmp 13) (.val (.val (.int .u8 90)))))]⟩,⟨(some (9,false)),[br 15 12 14]⟩,⟨none,[bt 16 9 15,aa 17 16]⟩,⟨(some (17,false)),[aa 18 0,((some 19),.op (.arith .eql (.tmp 18) (.val (.val (.int .u8 95)))))]⟩,⟨none,[bt 20 17 19,aa 2 20]⟩]) <|
  .ret,
  [.tmp 2],21⟩
theorem p5:bC Tryz.prog 148 []=some lf:=by kernel_rfl
def j3:DF:=⟨.seq (ax [aU 2 false]) <|
  .seq (.seq (ax [aa 3 0,((some 4),.op (.fC (.tmp 3))),ay 5 .eql 4 3]) <|
  .cond (.tmp 5) (.seq (.region [] [⟨none,[aa 6 0,((some 7),.op (.cM (.tmp 6) (.val (.val (.int .i64 0))))),((some 8),.op (.arith .eql (.tmp 7) (.val (.val (.int .u8 39))))),aa 9 8]⟩,⟨(some (9,true)),[aa 10 0,((some 11),.op (.cM (.tmp 10) (.val (.val (.int .i64 2))))),((some 12),.op (.arith .eql (.tmp 11) (.val (.val (.int .u8 39)))))]⟩,⟨none,[br 13 9 12,aa 14 13]⟩,⟨(some (14,true)),[aa 15 0,((some 16),.op (.cM (.tmp 15) (.val (.val (.int .i64 1))))),((some 17),.op (.arith .geq (.tmp 16) (.val (.val (.int .u8 32)))))]⟩,⟨none,[br 18 14 17,aa 19 18]⟩,⟨(some (19,true)),[aa 20 0,((some 21),.op (.cM (.tmp 20) (.val (.val (.int .i64 1))))),((some 22),.op (.arith .leq (.tmp 21) (.val (.val (.int .u8 126)))))]⟩,⟨none,[br 23 19 22,aa 24 23]⟩,⟨(some (24,true)),[aa 25 0,((some 26),.op (.cM (.tmp 25) (.val (.val (.int .i64 1))))),((some 27),.op (.arith .neq (.tmp 26) (.val (.val (.int .u8 39)))))]⟩,⟨none,[br 28 24 27,aa 29 28]⟩,⟨(some (29,true)),[aa 30 0,((some 31),.op (.cM (.tmp 30) (.val (.val (.int .i64 1))))),((some 32),.op (.arith .neq (.tmp 31) (.val (.val (.int .u8 92)))))]⟩,⟨none,[br 33 29 32,aa 2 33]⟩]) <|
  .ret) (.skip)) <|
  .seq (.region [] [⟨none,[aa 34 0,((some 35),.op (.fC (.tmp 34))),ay 36 .eql 35 4,aa 37 36]⟩,⟨(some (37,true)),[aa 38 0,((some 39),.op (.cM (.tmp 38) (.val (.val (.int .i64 0))))),((some 40),.op (.arith .eql (.tmp 39) (.val (.val (.int .u8 39)))))]⟩,⟨none,[br 41 37 40,aa 42 41]⟩,⟨(some (42,true)),[aa 43 0,((some 44),.op (.cM (.tmp 43) (.val (.val (.int .i64 3))))),((some 45),.op (.arith .eql (.tmp 44) (.val (.val (.int .u8 39)))))]⟩,⟨none,[br 46 42 45,aa 47 46]⟩,⟨(some (47,true)),[aa 48 0,((some 49),.op (.cM (.tmp 48) (.val (.val (.int .i64 1))))),((some 50),.op (.arith .eql (.tmp 49) (.val (.val (.int .u8 92)))))]⟩,⟨none,[br 51 47 50,aa 52 51]⟩,⟨(some (52,true)),[aa 53 0,((some 54),.op (.cM (.tmp 53) (.val (.val (.int .i64 2))))),((some 55),.op (.arith .eql (.tmp 54) (.val (.val (.int .u8 110))))),aa 56 55]⟩,⟨(some (56,false)),[aa 57 0,((some 58),.op (.cM (.tmp 57) (.val (.val (.int .i64 2))))),((some 59),.op (.arith .eql (.tmp 58) (.val (.val (.int .u8 116)))))]⟩,⟨(some (52,true)),[bt 60 56 59,aa 61 60]⟩,⟨(some (61,false)),[aa 62 0,((some 63),.op (.cM (.tmp 62) (.val (.val (.int .i64 2))))),((some 64),.op (.arith .eql (.tmp 63) (.val (.val (.int .u8 92)))))]⟩,⟨(some (52,true)),[bt 65 61 64,aa 66 65]⟩,⟨(some (66,false)),[aa 67 0,((some 68),.op (.cM (.tmp 67) (.val (.val (.int .i64 2))))),((some 69),.op (.arith .eql (.tmp 68) (.val (.val (.int .u8 39)))))]⟩,⟨(some (52,true)),[bt 70 66 69]⟩,⟨none,[br 71 52 70,aa 2 71]⟩]) <|
  .ret,
  [.tmp 2],72⟩
theorem oy:bC Tryz.prog 147 []=some j3:=by kernel_rfl
def o5:DC :=
  .seq (.seq (ax [aa 6 4,aa 7 3,aL 8 7,bb 9 .lss 6 8]) <|
  .cond (.tmp 9) (.skip) (.exit 0)) <|
  .seq (.block 1 (.seq (.region [(5,9)] [⟨none,[aa 12 0,aL 13 12,ay 14 .lss 13 4,aa 15 14]⟩,⟨(some (15,true)),[aa 16 0,((some 17),.op (.bm (.convert 57 9 (.tmp 16)) 9)),aa 18 3,aa 19 4,aN 20 1 18 19,an 21 20,((some 22),.op (.hO .add (.tmp 17) (.tmp 21))),aG 23 147 [22]]⟩,⟨none,[br 24 15 23]⟩]) <|
  .cond (.tmp 24) (.seq (ax [aH 2 4]) <|
  .ret) (.skip))) <|
  ax [aa 10 4,ay 11 .add 10 1,aa 4 11]
def j7:DF:=⟨.seq (ax [aH 2 0]) <|
  .seq (.region [] [⟨none,[((some 5),.op (.bH 5 1 [(.val (.string ⟨#[]⟩))] [(0,(.val (.val (.string ⟨#[120,39]⟩)))),(1,(.val (.val (.string ⟨#[39]⟩)))),(2,(.val (.val (.string ⟨#[92,110,39]⟩)))),(3,(.val (.val (.string ⟨#[110,39]⟩)))),(4,(.val (.val (.string ⟨#[92,39,39]⟩))))])),aa 3 5]⟩]) <|
  .seq (.seq (ax [aH 4 0]) <|
  .block 0 (.loop o5)) <|
  .seq (ax [aH 2 3]) <|
  .ret,
  [.tmp 2],25⟩
theorem oT:bC Tryz.prog 164 []=some j7:=by kernel_rfl
def ka:DF:=⟨.seq (ax [aH 2 0]) <|
  .seq (.seq (ax [aa 3 0]) <|
  .block 0 (.seq (.region [] [⟨none,[((some 5),.op (.hO .eql (.tmp 3) (.val (.val (.string ⟨#[116,111,107,101,110]⟩))))),aa 4 5]⟩]) <|
  .cond (.tmp 4) (.seq (ax [aH 2 3]) <|
  .ret) (.seq (.region [] [⟨none,[((some 7),.op (.hO .eql (.tmp 3) (.val (.val (.string ⟨#[108,101,102,116]⟩))))),aa 6 7]⟩]) <|
  .cond (.tmp 6) (.seq (ax [aH 2 4]) <|
  .ret) (.seq (.region [] [⟨none,[((some 9),.op (.hO .eql (.tmp 3) (.val (.val (.string ⟨#[114,105,103,104,116]⟩))))),aa 8 9]⟩]) <|
  .cond (.tmp 8) (.seq (ax [aH 2 5]) <|
  .ret) (.seq (.region [] [⟨none,[((some 11),.op (.hO .eql (.tmp 3) (.val (.val (.string ⟨#[110,111,110,97,115,115,111,99]⟩))))),aa 10 11]⟩]) <|
  .cond (.tmp 10) (.seq (ax [aH 2 6]) <|
  .ret) (.seq (.region [] [⟨none,[((some 13),.op (.hO .eql (.tmp 3) (.val (.val (.string ⟨#[115,116,97,114,116]⟩))))),aa 12 13]⟩]) <|
  .cond (.tmp 12) (.seq (ax [aH 2 7]) <|
  .ret) (.seq (.region [] [⟨none,[((some 15),.op (.hO .eql (.tmp 3) (.val (.val (.string ⟨#[112,114,101,99]⟩))))),aa 14 15]⟩]) <|
  .cond (.tmp 14) (.seq (ax [aH 2 8]) <|
  .ret) (.skip)))))))) <|
  .seq (ax [aH 2 0]) <|
  .ret,
  [.tmp 2],16⟩
theorem ov:bC Tryz.prog 165 []=some ka:=by kernel_rfl
def mZ:DF:=⟨.seq (ax [aH 2 0]) <|
  .seq (.seq (ax [aa 3 0]) <|
  .block 0 (.seq (ax [((some 5),.op (.arith .eql (.tmp 3) (.val (.val (.int .u8 58))))),aa 4 5]) <|
  .cond (.tmp 4) (.seq (ax [aH 2 10]) <|
  .ret) (.seq (ax [((some 7),.op (.arith .eql (.tmp 3) (.val (.val (.int .u8 124))))),aa 6 7]) <|
  .cond (.tmp 6) (.seq (ax [aH 2 11]) <|
  .ret) (.seq (ax [((some 9),.op (.arith .eql (.tmp 3) (.val (.val (.int .u8 59))))),aa 8 9]) <|
  .cond (.tmp 8) (.seq (ax [aH 2 12]) <|
  .ret) (.skip))))) <|
  .seq (ax [aH 2 0]) <|
  .ret,
  [.tmp 2],10⟩
theorem qS:bC Tryz.prog 166 []=some mZ:=by kernel_rfl
def uh:DC :=
  .seq (.seq (.region [] [⟨none,[aa 21 7,bA 22 21,ar 23 3 22,an 24 23,ay 25 .eql 24 0,aa 26 25]⟩,⟨(some (26,true)),[aa 27 7,bA 28 27,ar 29 0 28,an 30 29,aL 31 30,ay 32 .gtr 31 0]⟩,⟨none,[br 33 26 32,aa 34 33]⟩,⟨(some (34,true)),[aa 35 7,aG 36 137 [35],ay 37 .neq 36 9]⟩,⟨none,[br 38 34 37]⟩]) <|
  .cond (.tmp 38) (.skip) (.exit 0)) <|
  .block 1 (.region [(1,3)] [⟨none,[ar 39 1 8,an 40 39,aa 41 7,aG 42 136 [41],((some 43),.op (.app 5 88 (.tmp 40) (.tmp 42))),ar 44 1 8,(none,.op (.store 1 (.tmp 44) (.tmp 43)))]⟩])
def oI:DF:=⟨.seq (ax [((some 4),.op (.alloc [(.emp 1),(.emp 1)])),((some 5),.op (.bu (.val (.val (.complex .f64 0 0))))),aH 6 0]) <|
  .seq (ax [aa 9 0,aa 10 1,((some 11),.op (.build [(.emp 1),(.val (.complex .f64 0 0)),(.val (.complex .f64 0 0)),(.val (.int .i64 0))] [(0,1,(.tmp 9)),(1,1,(.tmp 10))])),((some 12),.op (.box (.tmp 11))),aa 7 12]) <|
  .seq (ax [aa 13 7,aG 14 134 [13],((some 15),.op (.build [(.emp 1),(.emp 1)] [(0,1,(.tmp 14))])),((some 8),.op (.alloc [(.emp 1),(.emp 1)])),(none,.op (.store 2 (.tmp 8) (.tmp 15)))]) <|
  .seq (ax [aa 16 7,cG 17 135 [(.tmp 16),(.val (.val (.int .i64 9))),(.val (.val (.int .i64 9)))]]) <|
  .seq (ax [aa 18 7,aG 19 136 [18],ar 20 1 8,(none,.op (.store 1 (.tmp 20) (.tmp 19)))]) <|
  .seq (.block 0 (.loop uh)) <|
  .seq (.seq (.region [] [⟨none,[aa 45 7,bA 46 45,ar 47 3 46,an 48 47,ay 49 .eql 48 0,aa 50 49]⟩,⟨(some (50,true)),[aa 51 7,bA 52 51,ar 53 0 52,an 54 53,aL 55 54,ay 56 .gtr 55 0]⟩,⟨none,[br 57 50 56]⟩]) <|
  .cond (.tmp 57) (ax [aa 58 7,cG 59 135 [(.tmp 58),(.val (.val (.int .i64 9))),(.val (.val (.int .i64 9)))]]) (.skip)) <|
  .seq (.seq (ax [aa 60 7,bA 61 60,ar 62 0 61,an 63 62,aL 64 63,ay 65 .gtr 64 0]) <|
  .cond (.tmp 65) (ax [aa 66 7,aG 67 138 [66]]) (.skip)) <|
  .seq (.seq (ax [aa 68 7,bA 69 68,ar 70 3 69,an 71 70,ay 72 .neq 71 0]) <|
  .cond (.tmp 72) (.seq (.region [(4,9),(8,9)] [⟨none,[((some 73),.op (.build [(.emp 1),(.emp 1)] [])),aa 74 7,bA 75 74,ar 76 2 75,an 77 76,aa 78 7,bA 79 78,ar 80 3 79,an 81 80,(none,.op (.store 2 (.tmp 4) (.tmp 73))),aa 5 77,aa 6 81]⟩]) <|
  .ret) (.skip)) <|
  .seq (ax [aM 82 2 8,(none,.op (.store 2 (.tmp 4) (.tmp 82))),((some 5),.op (.bu (.val (.val (.complex .f64 0 0))))),aH 6 0]) <|
  .ret,
  [.cell 4 (some 2),.tmp 5,.tmp 6],83⟩
theorem sV:bC Tryz.prog 91 []=some oI:=by kernel_rfl
def gK:DF:=⟨.seq (ax [aH 2 0]) <|
  .seq (.seq (.region [] [⟨none,[aa 3 0,bA 4 3,ar 5 3 4,an 6 5,ay 7 .neq 6 0,aa 8 7]⟩,⟨(some (8,false)),[aa 9 0,bA 10 9,ar 11 0 10,an 12 11,aL 13 12,ay 14 .eql 13 0]⟩,⟨none,[bt 15 8 14]⟩]) <|
  .cond (.tmp 15) (.seq (ax [aH 2 0]) <|
  .ret) (.skip)) <|
  .seq (ax [aa 16 0,bA 17 16,ar 18 0 17,an 19 18,((some 20),.op (.idx 3 (.tmp 19) (.val (.val (.int .i64 0))))),ar 21 0 20,an 22 21,aa 2 22]) <|
  .ret,
  [.tmp 2],23⟩
theorem lE:bC Tryz.prog 137 []=some gK:=by kernel_rfl
def lK:DC :=
  .seq (.seq (ax [aa 10 0,bA 11 10,ar 12 3 11,an 13 12,ay 14 .eql 13 0]) <|
  .cond (.tmp 14) (.skip) (.exit 0)) <|
  .block 1 (.seq (.region [(0,2),(2,4)] [⟨none,[aM 15 2 4,aa 16 0,aG 17 167 [16],((some 18),.op (.build [(.val (.string ⟨#[]⟩)),(.val (.complex .f64 0 0)),(.emp 1),(.val (.string ⟨#[]⟩)),(.val (.complex .f64 0 0))] [(0,2,(.tmp 15)),(2,1,(.tmp 17))])),((some 5),.op (.alloc [(.val (.string ⟨#[]⟩)),(.val (.complex .f64 0 0)),(.emp 1),(.val (.string ⟨#[]⟩)),(.val (.complex .f64 0 0))])),(none,.op (.store 5 (.tmp 5) (.tmp 18)))]⟩]) <|
  .seq (.seq (ax [aa 19 0,cG 20 168 [(.tmp 19),(.val (.val (.int .i64 8))),(.val (.val (.int .i64 8)))]]) <|
  .cond (.tmp 20) (.seq (ax [aa 21 0,cG 22 135 [(.tmp 21),(.val (.val (.int .i64 8))),(.val (.val (.int .i64 8)))]]) <|
  ax [aa 23 0,cG 24 135 [(.tmp 23),(.val (.val (.int .i64 1))),(.val (.val (.int .i64 2)))],ar 25 3 5,(none,.op (.store 2 (.tmp 25) (.tmp 24)))]) (.skip)) <|
  .seq (.region [] [⟨none,[aa 26 3,aM 27 5 5,((some 28),.op (.bH 1 5 [(.val (.string ⟨#[]⟩)),(.val (.complex .f64 0 0)),(.emp 1),(.val (.string ⟨#[]⟩)),(.val (.complex .f64 0 0))] [(0,(.tmp 27))])),((some 29),.op (.app 5 88 (.tmp 26) (.tmp 28))),aa 3 29]⟩]) <|
  .seq (.seq (ax [aa 30 0,cG 31 168 [(.tmp 30),(.val (.val (.int .i64 11))),(.val (.val (.int .i64 11)))],bL 32 31]) <|
  .cond (.tmp 32) (.seq (ax [aa 33 0,cG 34 135 [(.tmp 33),(.val (.val (.int .i64 12))),(.val (.val (.int .i64 12)))]]) <|
  .seq (ax [aa 35 3,aa 2 35]) <|
  .ret) (.skip)) <|
  ax [aa 36 0,cG 37 135 [(.tmp 36),(.val (.val (.int .i64 11))),(.val (.val (.int .i64 11)))]])
def gn:DF:=⟨.seq (ax [((some 2),.op (.bu (.val (.emp 1))))]) <|
  .seq (ax [((some 3),.op (.bu (.val (.emp 1))))]) <|
  .seq (.region [] [⟨none,[aa 6 0,cG 7 135 [(.tmp 6),(.val (.val (.int .i64 1))),(.val (.val (.int .i64 1)))],((some 4),.op (.alloc [(.val (.string ⟨#[]⟩)),(.val (.complex .f64 0 0))])),(none,.op (.store 2 (.tmp 4) (.tmp 7)))]⟩]) <|
  .seq (ax [aa 8 0,cG 9 135 [(.tmp 8),(.val (.val (.int .i64 10))),(.val (.val (.int .i64 10)))]]) <|
  .seq (.block 0 (.loop lK)) <|
  .seq (ax [aa 38 3,aa 2 38]) <|
  .ret,
  [.tmp 2],39⟩
theorem kY:bC Tryz.prog 136 []=some gn:=by kernel_rfl
def mF:DC :=
  .seq (.seq (ax [aa 4 0,cG 5 168 [(.tmp 4),(.val (.val (.int .i64 1))),(.val (.val (.int .i64 2)))]]) <|
  .cond (.tmp 5) (.skip) (.exit 0)) <|
  .block 1 (.region [] [⟨none,[aa 6 3,aa 7 0,cG 8 135 [(.tmp 7),(.val (.val (.int .i64 1))),(.val (.val (.int .i64 2)))],((some 9),.op (.bH 1 2 [(.val (.string ⟨#[]⟩)),(.val (.complex .f64 0 0))] [(0,(.tmp 8))])),((some 10),.op (.app 2 32 (.tmp 6) (.tmp 9))),aa 3 10]⟩])
def gM:DF:=⟨.seq (ax [((some 2),.op (.bu (.val (.emp 1))))]) <|
  .seq (ax [((some 3),.op (.bu (.val (.emp 1))))]) <|
  .seq (.block 0 (.loop mF)) <|
  .seq (ax [aa 11 3,aa 2 11]) <|
  .ret,
  [.tmp 2],12⟩
theorem lY:bC Tryz.prog 167 []=some gM:=by kernel_rfl
def iS:DF:=⟨.seq (ax [aU 6 false]) <|
  .seq (.region [] [⟨none,[aa 7 0,bA 8 7,ar 9 0 8,an 10 9,aL 11 10,ay 12 .gtr 11 0,aa 13 12]⟩,⟨(some (13,true)),[aa 14 0,aG 15 137 [14],aa 16 1,bb 17 .eql 15 16,aa 18 17]⟩,⟨(some (18,false)),[aa 19 0,aG 20 137 [19],aa 21 2,bb 22 .eql 20 21]⟩,⟨(some (13,true)),[bt 23 18 22]⟩,⟨none,[br 24 13 23,aa 6 24]⟩]) <|
  .ret,
  [.tmp 6],25⟩
theorem nh:bC Tryz.prog 168 []=some iS:=by kernel_rfl
def gT:DF:=⟨.seq (.region [] [⟨none,[((some 6),.op (.alloc [(.val (.string ⟨#[]⟩)),(.val (.complex .f64 0 0))]))]⟩]) <|
  .seq (.seq (.region [] [⟨none,[aa 8 0,bA 9 8,ar 10 3 9,an 11 10,ay 12 .neq 11 0,aa 13 12]⟩,⟨(some (13,false)),[aa 14 0,aa 15 1,aa 16 2,aG 17 168 [14,15,16],bL 18 17]⟩,⟨none,[bt 19 13 18]⟩]) <|
  .cond (.tmp 19) (.seq (ax [aa 20 0,aG 21 138 [20]]) <|
  .seq (.region [] [⟨none,[((some 22),.op (.build [(.val (.string ⟨#[]⟩)),(.val (.complex .f64 0 0))] [])),(none,.op (.store 2 (.tmp 6) (.tmp 22)))]⟩]) <|
  .ret) (.skip)) <|
  .seq (.region [] [⟨none,[aa 23 0,bA 24 23,ar 25 0 24,an 26 25,((some 27),.op (.idx 3 (.tmp 26) (.val (.val (.int .i64 0))))),aM 28 3 27,((some 7),.op (.alloc [(.val (.int .i64 0)),(.val (.string ⟨#[]⟩)),(.val (.complex .f64 0 0))])),(none,.op (.store 3 (.tmp 7) (.tmp 28)))]⟩]) <|
  .seq (ax [aa 29 0,aa 30 0,bA 31 30,ar 32 0 31,an 33 32,((some 34),.op (.slice 3 (.tmp 33) (some (.val (.val (.int .i64 1)))) none)),bA 35 29,ar 36 0 35,(none,.op (.store 1 (.tmp 36) (.tmp 34)))]) <|
  .seq (.region [] [⟨none,[ar 37 1 7,an 38 37,ar 39 2 7,an 40 39,((some 41),.op (.build [(.val (.string ⟨#[]⟩)),(.val (.complex .f64 0 0))] [(0,1,(.tmp 38)),(1,1,(.tmp 40))])),(none,.op (.store 2 (.tmp 6) (.tmp 41)))]⟩]) <|
  .ret,
  [.cell 6 (some 2)],42⟩
theorem lG:bC Tryz.prog 135 []=some gT:=by kernel_rfl
def gP:DF:=⟨.seq (.seq (ax [aa 2 0,bA 3 2,ar 4 3 3,an 5 4,ay 6 .neq 5 0]) <|
  .cond (.tmp 6) (.ret) (.skip)) <|
  .seq (ax [aa 7 0,aa 8 0,aa 9 0,bA 10 9,ar 11 1 10,an 12 11,bA 13 7,ar 14 2 13,(none,.op (.store 1 (.tmp 14) (.tmp 12))),bA 15 8,ar 16 3 15,(none,.op (.store 1 (.tmp 16) (.val (.val (.int .i64 4)))))]) <|
  .seq (ax [aa 17 0,bA 18 17,ar 19 0 18,an 20 19,aL 21 20,ay 22 .gtr 21 0]) <|
  .cond (.tmp 22) (ax [aa 23 0,aa 24 0,aa 25 0,bA 26 25,ar 27 0 26,an 28 27,((some 29),.op (.idx 3 (.tmp 28) (.val (.val (.int .i64 0))))),ar 30 2 29,an 31 30,bA 32 23,ar 33 2 32,(none,.op (.store 1 (.tmp 33) (.tmp 31))),bA 34 24,ar 35 3 34,(none,.op (.store 1 (.tmp 35) (.val (.val (.int .i64 3)))))]) (.skip),
  [],36⟩
theorem lD:bC Tryz.prog 138 []=some gP:=by kernel_rfl
def lQ:DC :=
  .seq (.seq (.region [] [⟨none,[aa 6 0,bA 7 6,ar 8 3 7,an 9 8,ay 10 .eql 9 0,aa 11 10]⟩,⟨(some (11,true)),[aa 12 0,bA 13 12,ar 14 0 13,an 15 14,aL 16 15,ay 17 .gtr 16 0]⟩,⟨none,[br 18 11 17,aa 19 18]⟩,⟨(some (19,true)),[aa 20 0,aG 21 137 [20],ay 22 .neq 21 9]⟩,⟨none,[br 23 19 22]⟩]) <|
  .cond (.tmp 23) (.skip) (.exit 0)) <|
  .block 1 (.seq (ax [aa 24 0,aG 25 137 [24],aa 4 25]) <|
  .seq (.seq (ax [aa 26 4,ay 27 .eql 26 7]) <|
  .cond (.tmp 27) (.seq (ax [aa 28 0,aa 29 4,aa 30 4,aG 31 135 [28,29,30]]) <|
  .seq (.region [] [⟨none,[aa 32 3,aa 33 4,aa 34 0,cG 35 135 [(.tmp 34),(.val (.val (.int .i64 1))),(.val (.val (.int .i64 1)))],((some 36),.op (.bH 1 2 [(.val (.string ⟨#[]⟩)),(.val (.complex .f64 0 0))] [(0,(.tmp 35))])),((some 37),.op (.build [(.val (.int .i64 0)),(.emp 1)] [(0,1,(.tmp 33)),(1,1,(.tmp 36))])),((some 38),.op (.bH 1 2 [(.val (.int .i64 0)),(.emp 1)] [(0,(.tmp 37))])),((some 39),.op (.app 2 32 (.tmp 32) (.tmp 38))),aa 3 39]⟩]) <|
  .exit 1) (.skip)) <|
  .seq (.seq (.region [] [⟨none,[aa 40 4,ay 41 .neq 40 3,aa 42 41]⟩,⟨(some (42,true)),[aa 43 4,ay 44 .neq 43 4]⟩,⟨none,[br 45 42 44,aa 46 45]⟩,⟨(some (46,true)),[aa 47 4,ay 48 .neq 47 5]⟩,⟨none,[br 49 46 48,aa 50 49]⟩,⟨(some (50,true)),[aa 51 4,ay 52 .neq 51 6]⟩,⟨none,[br 53 50 52]⟩]) <|
  .cond (.tmp 53) (.seq (ax [aa 54 0,aG 55 138 [54]]) <|
  .exit 1) (.skip)) <|
  .seq (ax [aa 56 0,aa 57 4,aa 58 4,aG 59 135 [56,57,58]]) <|
  .seq (.region [] [⟨none,[aa 60 0,cG 61 135 [(.tmp 60),(.val (.val (.int .i64 1))),(.val (.val (.int .i64 2)))],((some 5),.op (.alloc [(.val (.string ⟨#[]⟩)),(.val (.complex .f64 0 0))])),(none,.op (.store 2 (.tmp 5) (.tmp 61)))]⟩]) <|
  .region [(2,5),(3,5)] [⟨none,[aa 62 3,aa 63 4,aM 64 2 5,((some 65),.op (.bH 1 2 [(.val (.string ⟨#[]⟩)),(.val (.complex .f64 0 0))] [(0,(.tmp 64))])),aa 66 0,aG 67 167 [66],((some 68),.op (.app 2 32 (.tmp 65) (.tmp 67))),((some 69),.op (.build [(.val (.int .i64 0)),(.emp 1)] [(0,1,(.tmp 63)),(1,1,(.tmp 68))])),((some 70),.op (.bH 1 2 [(.val (.int .i64 0)),(.emp 1)] [(0,(.tmp 69))])),((some 71),.op (.app 2 32 (.tmp 62) (.tmp 70))),aa 3 71]⟩])
def gu:DF:=⟨.seq (ax [((some 2),.op (.bu (.val (.emp 1))))]) <|
  .seq (ax [((some 3),.op (.bu (.val (.emp 1))))]) <|
  .seq (.block 0 (.loop lQ)) <|
  .seq (ax [aa 72 3,aa 2 72]) <|
  .ret,
  [.tmp 2],73⟩
theorem k6:bC Tryz.prog 134 []=some gu:=by kernel_rfl
def qn:DC :=
  .seq (.seq (.region [] [⟨none,[aa 17 6,ar 18 1 1,an 19 18,aL 20 19,bb 21 .lss 17 20,aa 22 21]⟩,⟨(some (22,true)),[aa 23 5,bA 24 23,ar 25 10 24,an 26 25,ay 27 .eql 26 0]⟩,⟨none,[br 28 22 27]⟩]) <|
  .cond (.tmp 28) (.skip) (.exit 0)) <|
  .seq (.block 1 (ax [aa 31 5,ar 32 1 1,an 33 32,aa 34 6,aN 35 5 33 34,aM 36 5 35,aG 37 94 [31,36]])) <|
  ax [aa 29 6,ay 30 .add 29 1,aa 6 30]
def ln:DF:=⟨.seq (ax [cE 1 0,((some 2),.op (.alloc [(.emp 1),(.emp 1),(.emp 1),(.val (.int .i64 0))])),((some 3),.op (.bu (.val (.val (.complex .f64 0 0))))),aH 4 0]) <|
  .seq (.region [] [⟨none,[((some 7),.op (.build [(.emp 1),(.emp 1),(.emp 1),(.val (.int .i64 0)),(.emp 1),(.val (.string ⟨#[]⟩)),(.val (.complex .f64 0 0)),(.val (.bool false)),(.val (.int .i64 0)),(.val (.complex .f64 0 0)),(.val (.int .i64 0))] [])),((some 8),.op (.box (.tmp 7))),aa 5 8]⟩]) <|
  .seq (ax [aa 9 5,ar 10 0 1,an 11 10,aG 12 92 [9,11]]) <|
  .seq (ax [aa 13 5,ar 14 1 1,an 15 14,aG 16 93 [13,15]]) <|
  .seq (.seq (ax [aH 6 0]) <|
  .block 0 (.loop qn)) <|
  .seq (.seq (.region [] [⟨none,[aa 38 5,bA 39 38,ar 40 7 39,an 41 40,aa 42 41]⟩,⟨(some (42,true)),[aa 43 5,bA 44 43,ar 45 0 44,aM 46 4 45,aa 47 5,bA 48 47,ar 49 5 48,ar 50 0 49,an 51 50,aG 52 95 [46,51],ay 53 .lss 52 0]⟩,⟨none,[br 54 42 53]⟩]) <|
  .cond (.tmp 54) (ax [aa 55 5,aa 56 5,bA 57 56,ar 58 5 57,aM 59 2 58,cG 60 96 [(.tmp 55),(.tmp 59),(.val (.val (.int .i64 8)))]]) (.skip)) <|
  .seq (.seq (ax [ar 61 1 1,an 62 61,aL 63 62,ay 64 .eql 63 0]) <|
  .cond (.tmp 64) (.region [] [⟨none,[aa 65 5,((some 66),.op (.build [(.val (.string ⟨#[]⟩)),(.val (.complex .f64 0 0))] [])),cG 67 96 [(.tmp 65),(.tmp 66),(.val (.val (.int .i64 8)))]]⟩]) (.skip)) <|
  .seq (.seq (ax [aa 68 5,bA 69 68,ar 70 10 69,an 71 70,ay 72 .neq 71 0]) <|
  .cond (.tmp 72) (.seq (.region [(4,9),(8,9)] [⟨none,[((some 73),.op (.build [(.emp 1),(.emp 1),(.emp 1),(.val (.int .i64 0))] [])),aa 74 5,bA 75 74,ar 76 9 75,an 77 76,aa 78 5,bA 79 78,ar 80 10 79,an 81 80,(none,.op (.store 4 (.tmp 2) (.tmp 73))),aa 3 77,aa 4 81]⟩]) <|
  .ret) (.skip)) <|
  .seq (.seq (ax [aa 82 5,bA 83 82,ar 84 7 83,an 85 84]) <|
  .cond (.tmp 85) (ax [aa 86 5,aa 87 5,bA 88 87,ar 89 0 88,aM 90 4 89,aa 91 5,bA 92 91,ar 93 5 92,ar 94 0 93,an 95 94,aG 96 95 [90,95],bA 97 86,ar 98 0 97,ar 99 3 98,(none,.op (.store 1 (.tmp 99) (.tmp 96)))]) (.skip)) <|
  .seq (ax [aa 100 5,bA 101 100,ar 102 0 101,aM 103 4 102,(none,.op (.store 4 (.tmp 2) (.tmp 103))),((some 3),.op (.bu (.val (.val (.complex .f64 0 0))))),aH 4 0]) <|
  .ret,
  [.cell 2 (some 4),.tmp 3,.tmp 4],104⟩
theorem pX:bC Tryz.prog 52 [1]=some ln:=by kernel_rfl
def nM:DC :=
  .seq (.seq (.region [] [⟨none,[aa 28 5,ar 29 2 3,an 30 29,aL 31 30,bb 32 .lss 28 31,aa 33 32]⟩,⟨(some (33,true)),[aa 34 0,bA 35 34,ar 36 10 35,an 37 36,ay 38 .eql 37 0]⟩,⟨none,[br 39 33 38]⟩]) <|
  .cond (.tmp 39) (.skip) (.exit 0)) <|
  .seq (.block 1 (.seq (.region [] [⟨none,[ar 42 2 3,an 43 42,aa 44 5,aN 45 2 43 44,aM 46 2 45,((some 6),.op (.alloc [(.val (.string ⟨#[]⟩)),(.val (.complex .f64 0 0))])),(none,.op (.store 2 (.tmp 6) (.tmp 46)))]⟩]) <|
  .seq (.seq (ax [ar 47 0 6,an 48 47,aG 49 113 [48],bL 50 49]) <|
  .cond (.tmp 50) (.seq (ax [aa 51 0,aM 52 2 6,cG 53 96 [(.tmp 51),(.tmp 52),(.val (.val (.int .i64 3)))]]) <|
  .ret) (.skip)) <|
  .seq (.seq (ax [aa 54 5,ay 55 .eql 54 6]) <|
  .cond (.tmp 55) (.seq (ax [aa 56 0,aM 57 2 6,cG 58 96 [(.tmp 56),(.tmp 57),(.val (.val (.int .i64 5)))]]) <|
  .ret) (.skip)) <|
  .seq (ax [aa 59 0,aM 60 2 6,cG 61 140 [(.tmp 59),(.tmp 60),(.val (.val (.bool true)))],aa 7 61]) <|
  .seq (ax [ar 62 1 4,an 63 62,aa 64 7,((some 65),.op (.bH 1 1 [(.val (.int .i64 0))] [(0,(.tmp 64))])),((some 66),.op (.app 1 8 (.tmp 63) (.tmp 65))),ar 67 1 4,(none,.op (.store 1 (.tmp 67) (.tmp 66)))]) <|
  .seq (ax [aa 68 7,ay 69 .geq 68 0]) <|
  .cond (.tmp 69) (ax [aa 70 7,ar 71 2 4,(none,.op (.store 1 (.tmp 71) (.tmp 70)))]) (.skip))) <|
  ax [aa 40 5,ay 41 .add 40 1,aa 5 41]
def iT:DF:=⟨.seq (ax [cE 3 1]) <|
  .seq (.region [(7,9)] [⟨none,[aa 8 0,bA 9 8,ar 10 0 9,aM 11 4 10,ar 12 0 3,ar 13 0 12,an 14 13,aG 15 95 [11,14],((some 16),.op (.build [(.val (.int .i64 0)),(.emp 1),(.val (.int .i64 0))] [(0,1,(.tmp 15)),(2,1,(.val (.val (.int .i64 (-1)))))])),((some 4),.op (.alloc [(.val (.int .i64 0)),(.emp 1),(.val (.int .i64 0))])),(none,.op (.store 3 (.tmp 4) (.tmp 16)))]⟩]) <|
  .seq (.seq (ax [aa 17 0,bA 18 17,ar 19 0 18,ar 20 2 19,an 21 20,aL 22 21,ay 23 .eql 22 40]) <|
  .cond (.tmp 23) (ax [aa 24 0,ar 25 0 3,aM 26 2 25,cG 27 96 [(.tmp 24),(.tmp 26),(.val (.val (.int .i64 5)))]]) (.skip)) <|
  .seq (.seq (ax [aH 5 0]) <|
  .block 0 (.loop nM)) <|
  .seq (.seq (.region [] [⟨none,[ar 72 3 3,ar 73 0 72,an 74 73,((some 75),.op (.hO .neq (.tmp 74) (.val (.val (.string ⟨#[]⟩))))),aa 76 75]⟩,⟨(some (76,true)),[aa 77 0,bA 78 77,ar 79 10 78,an 80 79,ay 81 .eql 80 0]⟩,⟨none,[br 82 76 81]⟩]) <|
  .cond (.tmp 82) (.seq (.seq (ax [ar 83 3 3,ar 84 0 83,an 85 84,aG 86 113 [85],bL 87 86]) <|
  .cond (.tmp 87) (.seq (ax [aa 88 0,ar 89 3 3,aM 90 2 89,cG 91 96 [(.tmp 88),(.tmp 90),(.val (.val (.int .i64 3)))]]) <|
  .ret) (.skip)) <|
  ax [aa 92 0,ar 93 3 3,aM 94 2 93,cG 95 140 [(.tmp 92),(.tmp 94),(.val (.val (.bool false)))],ar 96 2 4,(none,.op (.store 1 (.tmp 96) (.tmp 95)))]) (.skip)) <|
  ax [aa 97 0,aa 98 0,bA 99 98,ar 100 0 99,ar 101 2 100,an 102 101,aM 103 3 4,((some 104),.op (.bH 1 3 [(.val (.int .i64 0)),(.emp 1),(.val (.int .i64 0))] [(0,(.tmp 103))])),((some 105),.op (.app 3 40 (.tmp 102) (.tmp 104))),bA 106 97,ar 107 0 106,ar 108 2 107,(none,.op (.store 1 (.tmp 108) (.tmp 105)))],
  [],109⟩
theorem nf:bC Tryz.prog 94 [3]=some iT:=by kernel_rfl
def lC:DF:=⟨.seq (ax [aU 2 false]) <|
  .seq (.region [] [⟨none,[aa 3 0,aG 4 116 [3],aa 5 4]⟩,⟨(some (5,false)),[aa 6 0,aG 7 147 [6]]⟩,⟨none,[bt 8 5 7,aa 2 8]⟩]) <|
  .ret,
  [.tmp 2],9⟩
theorem qf:bC Tryz.prog 113 []=some lC:=by kernel_rfl
def rE:DC :=
  .seq (.seq (ax [aa 18 3,aa 19 0,((some 20),.op (.fC (.tmp 19))),bb 21 .lss 18 20]) <|
  .cond (.tmp 21) (.skip) (.exit 0)) <|
  .seq (.block 1 (.seq (ax [aa 24 0,aa 25 3,((some 26),.op (.cM (.tmp 24) (.tmp 25))),aG 27 149 [26],bL 28 27]) <|
  .cond (.tmp 28) (.seq (ax [aU 2 false]) <|
  .ret) (.skip))) <|
  ax [aa 22 3,ay 23 .add 22 1,aa 3 23]
def mh:DF:=⟨.seq (ax [aU 2 false]) <|
  .seq (.seq (.region [] [⟨none,[aa 4 0,((some 5),.op (.fC (.tmp 4))),ay 6 .eql 5 0,aa 7 6]⟩,⟨(some (7,false)),[aa 8 0,((some 9),.op (.fC (.tmp 8))),ay 10 .gtr 9 20]⟩,⟨none,[bt 11 7 10,aa 12 11]⟩,⟨(some (12,false)),[aa 13 0,((some 14),.op (.cM (.tmp 13) (.val (.val (.int .i64 0))))),aG 15 148 [14],bL 16 15]⟩,⟨none,[bt 17 12 16]⟩]) <|
  .cond (.tmp 17) (.seq (ax [aU 2 false]) <|
  .ret) (.skip)) <|
  .seq (.seq (ax [aH 3 0]) <|
  .block 0 (.loop rE)) <|
  .seq (ax [aU 2 true]) <|
  .ret,
  [.tmp 2],29⟩
theorem qy:bC Tryz.prog 116 []=some mh:=by kernel_rfl
def iR:DF:=⟨.seq (ax [cE 4 1]) <|
  .seq (ax [aa 6 0,bA 7 6,ar 8 10 7,an 9 8,ay 10 .eql 9 0]) <|
  .cond (.tmp 10) (ax [aa 11 0,aa 12 0,ar 13 1 4,an 14 13,aa 15 2,bA 16 11,ar 17 9 16,(none,.op (.store 1 (.tmp 17) (.tmp 14))),bA 18 12,ar 19 10 18,(none,.op (.store 1 (.tmp 19) (.tmp 15)))]) (.skip),
  [],20⟩
theorem m9:bC Tryz.prog 96 [4]=some iR:=by kernel_rfl
def gV:DF:=⟨.seq (ax [cE 4 1,aH 6 0]) <|
  .seq (ax [aa 8 0,bA 9 8,ar 10 0 9,aM 11 4 10,ar 12 0 4,an 13 12,aG 14 95 [11,13],aa 7 14]) <|
  .seq (.block 0 (.seq (.region [] [⟨none,[aa 19 7,ay 20 .geq 19 0,aa 21 20]⟩,⟨(some (21,true)),[aa 22 2]⟩,⟨none,[br 23 21 22,aa 18 23]⟩]) <|
  .cond (.tmp 18) (.seq (ax [aa 24 7,((some 25),.op (.arith .sub (.val (.val (.int .i64 (-1)))) (.tmp 24))),aa 6 25]) <|
  .ret) (.seq (ax [aa 27 7,ay 28 .geq 27 0,aa 26 28]) <|
  .cond (.tmp 26) (ax [aa 29 0,aM 30 2 4,cG 31 96 [(.tmp 29),(.tmp 30),(.val (.val (.int .i64 6)))]]) (.seq (.region [] [⟨none,[aa 33 0,bA 34 33,ar 35 0 34,aM 36 4 35,ar 37 0 4,an 38 37,aG 39 114 [36,38],ay 40 .geq 39 0,aa 41 40]⟩,⟨(some (41,false)),[ar 42 0 4,an 43 42,aG 44 147 [43]]⟩,⟨none,[bt 45 41 44,aa 46 45]⟩,⟨(some (46,false)),[ar 47 0 4,an 48 47,((some 49),.op (.hO .eql (.tmp 48) (.val (.val (.string ⟨#[101,114,114,111,114]⟩)))))]⟩,⟨none,[bt 50 46 49,aa 32 50]⟩]) <|
  .cond (.tmp 32) (.seq (ax [aa 51 0,aM 52 2 4,aG 53 170 [51,52],aa 6 53]) <|
  .ret) (ax [aa 15 0,aM 16 2 4,cG 17 96 [(.tmp 15),(.tmp 16),(.val (.val (.int .i64 6)))]]))))) <|
  .seq (ax [aH 6 0]) <|
  .ret,
  [.tmp 6],54⟩
theorem lN:bC Tryz.prog 140 [4]=some gV:=by kernel_rfl
def sX:DC :=
  .seq (.seq (ax [aa 6 5,ar 7 1 2,an 8 7,aL 9 8,bb 10 .lss 6 9]) <|
  .cond (.tmp 10) (.skip) (.exit 0)) <|
  .seq (.block 1 (.seq (ax [ar 13 1 2,an 14 13,aa 15 5,aN 16 1 14 15,an 17 16,aa 18 1,((some 19),.op (.hO .eql (.tmp 17) (.tmp 18)))]) <|
  .cond (.tmp 19) (.seq (ax [aa 20 5,aa 4 20]) <|
  .ret) (.skip))) <|
  ax [aa 11 5,ay 12 .add 11 1,aa 5 12]
def nE:DF:=⟨.seq (ax [cE 2 0,aH 4 0]) <|
  .seq (.seq (ax [aH 5 0]) <|
  .block 0 (.loop sX)) <|
  .seq (ax [aH 4 (-1)]) <|
  .ret,
  [.tmp 4],21⟩
theorem rV:bC Tryz.prog 95 [2]=some nE:=by kernel_rfl
def r9:DC :=
  .seq (.seq (ax [aa 6 5,ar 7 0 2,an 8 7,aL 9 8,bb 10 .lss 6 9]) <|
  .cond (.tmp 10) (.skip) (.exit 0)) <|
  .seq (.block 1 (.seq (ax [ar 13 0 2,an 14 13,aa 15 5,aN 16 3 14 15,ar 17 0 16,an 18 17,aa 19 1,((some 20),.op (.hO .eql (.tmp 18) (.tmp 19)))]) <|
  .cond (.tmp 20) (.seq (ax [aa 21 5,aa 4 21]) <|
  .ret) (.skip))) <|
  ax [aa 11 5,ay 12 .add 11 1,aa 5 12]
def ml:DF:=⟨.seq (ax [cE 2 0,aH 4 0]) <|
  .seq (.seq (ax [aH 5 0]) <|
  .block 0 (.loop r9)) <|
  .seq (ax [aH 4 (-1)]) <|
  .ret,
  [.tmp 4],22⟩
theorem qo:bC Tryz.prog 114 [2]=some ml:=by kernel_rfl
def fV:DF:=⟨.seq (ax [cE 3 1,aH 4 0]) <|
  .seq (ax [aa 6 0,bA 7 6,ar 8 0 7,aM 9 4 8,ar 10 0 3,an 11 10,aG 12 114 [9,11],aa 5 12]) <|
  .seq (.seq (ax [aa 13 5,ay 14 .geq 13 0]) <|
  .cond (.tmp 14) (.seq (ax [aa 15 5,aa 4 15]) <|
  .ret) (.skip)) <|
  .seq (.seq (ax [aa 16 0,bA 17 16,ar 18 0 17,ar 19 0 18,an 20 19,aL 21 20,ay 22 .eql 21 24]) <|
  .cond (.tmp 22) (.seq (ax [aa 23 0,aM 24 2 3,cG 25 96 [(.tmp 23),(.tmp 24),(.val (.val (.int .i64 5)))]]) <|
  .seq (ax [aH 4 0]) <|
  .ret) (.skip)) <|
  .seq (.region [] [⟨none,[aa 26 0,aa 27 0,bA 28 27,ar 29 0 28,ar 30 0 29,an 31 30,ar 32 0 3,an 33 32,((some 34),.op (.build [(.val (.string ⟨#[]⟩)),(.val (.int .i64 0)),(.val (.int .i64 0))] [(0,1,(.tmp 33))])),((some 35),.op (.bH 1 3 [(.val (.string ⟨#[]⟩)),(.val (.int .i64 0)),(.val (.int .i64 0))] [(0,(.tmp 34))])),((some 36),.op (.app 3 32 (.tmp 31) (.tmp 35))),bA 37 26,ar 38 0 37,ar 39 0 38,(none,.op (.store 1 (.tmp 39) (.tmp 36)))]⟩]) <|
  .seq (ax [aa 40 0,bA 41 40,ar 42 0 41,ar 43 0 42,an 44 43,aL 45 44,ay 46 .sub 45 1,aa 4 46]) <|
  .ret,
  [.tmp 4],47⟩
theorem kE:bC Tryz.prog 170 [3]=some fV:=by kernel_rfl
def ni:DC :=
  .seq (.seq (.region [] [⟨none,[aa 60 7,ar 61 1 5,an 62 61,aL 63 62,bb 64 .lss 60 63,aa 65 64]⟩,⟨(some (65,true)),[aa 66 0,bA 67 66,ar 68 10 67,an 69 68,ay 70 .eql 69 0]⟩,⟨none,[br 71 65 70]⟩]) <|
  .cond (.tmp 71) (.skip) (.exit 2)) <|
  .seq (.block 3 (ax [aa 74 0,ar 75 0 5,an 76 75,ar 77 1 5,an 78 77,aa 79 7,aN 80 2 78 79,aM 81 2 80,aG 82 139 [74,76,81]])) <|
  ax [aa 72 7,ay 73 .add 72 1,aa 7 73]
def m6:DC :=
  .seq (.seq (.region [] [⟨none,[aa 8 4,aa 9 1,aL 10 9,bb 11 .lss 8 10,aa 12 11]⟩,⟨(some (12,true)),[aa 13 0,bA 14 13,ar 15 10 14,an 16 15,ay 17 .eql 16 0]⟩,⟨none,[br 18 12 17]⟩]) <|
  .cond (.tmp 18) (.skip) (.exit 0)) <|
  .seq (.block 1 (.seq (ax [aa 21 1,aa 22 4,aN 23 2 21 22,aM 24 2 23,((some 5),.op (.alloc [(.val (.int .i64 0)),(.emp 1)])),(none,.op (.store 2 (.tmp 5) (.tmp 24)))]) <|
  .seq (.seq (.region [] [⟨none,[ar 25 0 5,an 26 25,ay 27 .lss 26 3,aa 28 27]⟩,⟨(some (28,false)),[ar 29 0 5,an 30 29,ay 31 .gtr 30 7]⟩,⟨none,[bt 32 28 31]⟩]) <|
  .cond (.tmp 32) (.seq (.region [] [⟨none,[((some 33),.op (.build [(.val (.string ⟨#[]⟩)),(.val (.complex .f64 0 0))] [])),((some 6),.op (.alloc [(.val (.string ⟨#[]⟩)),(.val (.complex .f64 0 0))])),(none,.op (.store 2 (.tmp 6) (.tmp 33)))]⟩]) <|
  .seq (.seq (ax [ar 34 1 5,an 35 34,aL 36 35,ay 37 .gtr 36 0]) <|
  .cond (.tmp 37) (ax [ar 38 1 5,an 39 38,((some 40),.op (.idx 2 (.tmp 39) (.val (.val (.int .i64 0))))),aM 41 2 40,(none,.op (.store 2 (.tmp 6) (.tmp 41)))]) (.skip)) <|
  .seq (ax [aa 42 0,aM 43 2 6,cG 44 96 [(.tmp 42),(.tmp 43),(.val (.val (.int .i64 3)))]]) <|
  .ret) (.skip)) <|
  .seq (.seq (.region [] [⟨none,[ar 45 0 5,an 46 45,ay 47 .neq 46 3,aa 48 47]⟩,⟨(some (48,true)),[ar 49 0 5,an 50 49,ay 51 .neq 50 7]⟩,⟨none,[br 52 48 51]⟩]) <|
  .cond (.tmp 52) (ax [aa 53 0,bA 54 53,ar 55 8 54,an 56 55,ay 57 .add 56 1,bA 58 53,ar 59 8 58,(none,.op (.store 1 (.tmp 59) (.tmp 57)))]) (.skip)) <|
  .seq (ax [aH 7 0]) <|
  .block 2 (.loop ni))) <|
  ax [aa 19 4,ay 20 .add 19 1,aa 4 20]
def g9:DF:=⟨.seq (ax [aH 4 0]) <|
  .block 0 (.loop m6),
  [],83⟩
theorem mn:bC Tryz.prog 92 []=some g9:=by kernel_rfl
def gw:DF:=⟨.seq (ax [cE 5 2]) <|
  .block 0 (.seq (.region [] [⟨none,[ar 63 0 5,an 64 63,aG 65 113 [64],bL 66 65,aa 67 66]⟩,⟨(some (67,false)),[aa 68 1,ay 69 .eql 68 7,aa 70 69]⟩,⟨(some (70,true)),[ar 71 0 5,an 72 71,aG 73 116 [72],bL 74 73]⟩,⟨(some (67,false)),[br 75 70 74]⟩,⟨none,[bt 76 67 75,aa 62 76]⟩]) <|
  .cond (.tmp 62) (ax [aa 77 0,aM 78 2 5,cG 79 96 [(.tmp 77),(.tmp 78),(.val (.val (.int .i64 3)))]]) (.seq (ax [aa 81 1,ay 82 .eql 81 7,aa 80 82]) <|
  .cond (.tmp 80) (.seq (.seq (ax [aa 83 0,bA 84 83,ar 85 7 84,an 86 85]) <|
  .cond (.tmp 86) (ax [aa 87 0,aM 88 2 5,cG 89 96 [(.tmp 87),(.tmp 88),(.val (.val (.int .i64 7)))]]) (.skip)) <|
  ax [aa 90 0,aa 91 0,aM 92 2 5,bA 93 90,ar 94 5 93,(none,.op (.store 2 (.tmp 94) (.tmp 92))),bA 95 91,ar 96 7 95,(none,.op (.store 1 (.tmp 96) (.val (.val (.bool true)))))]) (.seq (ax [aa 98 1,ay 99 .eql 98 3,aa 97 99]) <|
  .cond (.tmp 97) (.seq (.seq (ax [aa 100 0,bA 101 100,ar 102 4 101,an 103 102,ar 104 0 5,an 105 104,aG 106 169 [103,105]]) <|
  .cond (.tmp 106) (ax [aa 107 0,aM 108 2 5,cG 109 96 [(.tmp 107),(.tmp 108),(.val (.val (.int .i64 7)))]]) (.skip)) <|
  .seq (.region [] [⟨none,[aa 110 0,aa 111 0,bA 112 111,ar 113 4 112,an 114 113,ar 115 0 5,an 116 115,((some 117),.op (.bH 1 1 [(.val (.string ⟨#[]⟩))] [(0,(.tmp 116))])),((some 118),.op (.app 1 16 (.tmp 114) (.tmp 117))),bA 119 110,ar 120 4 119,(none,.op (.store 1 (.tmp 120) (.tmp 118)))]⟩]) <|
  ax [aa 121 0,aM 122 2 5,aG 123 170 [121,122]]) (.seq (ax [aa 7 0,bA 8 7,ar 9 0 8,aM 10 4 9,ar 11 0 5,an 12 11,aG 13 114 [10,12],aa 6 13]) <|
  .seq (.seq (.region [] [⟨none,[aa 14 6,ay 15 .geq 14 0,aa 16 15]⟩,⟨(some (16,true)),[aa 17 0,bA 18 17,ar 19 0 18,ar 20 0 19,an 21 20,aa 22 6,aN 23 3 21 22,ar 24 1 23,an 25 24,ay 26 .gtr 25 0]⟩,⟨none,[br 27 16 26]⟩]) <|
  .cond (.tmp 27) (.seq (ax [aa 28 0,aM 29 2 5,cG 30 96 [(.tmp 28),(.tmp 29),(.val (.val (.int .i64 7)))]]) <|
  .ret) (.skip)) <|
  .seq (ax [aa 31 0,aM 32 2 5,aG 33 170 [31,32],aa 6 33]) <|
  .seq (ax [aa 34 0,bA 35 34,ar 36 10 35,an 37 36,ay 38 .eql 37 0]) <|
  .cond (.tmp 38) (ax [aa 39 0,bA 40 39,ar 41 0 40,ar 42 0 41,an 43 42,aa 44 6,aa 45 0,bA 46 45,ar 47 0 46,ar 48 0 47,an 49 48,aa 50 6,aa 51 0,bA 52 51,ar 53 8 52,an 54 53,aa 55 1,ay 56 .sub 55 4,ay 57 .add 56 1,aN 58 3 43 44,ar 59 1 58,(none,.op (.store 1 (.tmp 59) (.tmp 54))),aN 60 3 49 50,ar 61 2 60,(none,.op (.store 1 (.tmp 61) (.tmp 57)))]) (.skip))))),
  [],124⟩
theorem kZ:bC Tryz.prog 139 [5]=some gw:=by kernel_rfl
def sZ:DC :=
  .seq (.seq (ax [aa 6 5,aa 7 0,aL 8 7,bb 9 .lss 6 8]) <|
  .cond (.tmp 9) (.skip) (.exit 0)) <|
  .seq (.block 1 (.seq (ax [aa 12 0,aa 13 5,aN 14 1 12 13,an 15 14,aa 16 1,((some 17),.op (.hO .eql (.tmp 15) (.tmp 16)))]) <|
  .cond (.tmp 17) (.seq (ax [aU 4 true]) <|
  .ret) (.skip))) <|
  ax [aa 10 5,ay 11 .add 10 1,aa 5 11]
def nr:DF:=⟨.seq (ax [aU 4 false]) <|
  .seq (.seq (ax [aH 5 0]) <|
  .block 0 (.loop sZ)) <|
  .seq (ax [aU 4 false]) <|
  .ret,
  [.tmp 4],18⟩
theorem rD:bC Tryz.prog 169 []=some nr:=by kernel_rfl
def ng:DC :=
  .seq (.seq (.region [] [⟨none,[aa 6 4,aa 7 1,aL 8 7,bb 9 .lss 6 8,aa 10 9]⟩,⟨(some (10,true)),[aa 11 0,bA 12 11,ar 13 10 12,an 14 13,ay 15 .eql 14 0]⟩,⟨none,[br 16 10 15]⟩]) <|
  .cond (.tmp 16) (.skip) (.exit 0)) <|
  .seq (.block 1 (.seq (.region [] [⟨none,[aa 19 1,aa 20 4,aN 21 5 19 20,ar 22 0 21,aM 23 2 22,((some 5),.op (.alloc [(.val (.string ⟨#[]⟩)),(.val (.complex .f64 0 0))])),(none,.op (.store 2 (.tmp 5) (.tmp 23)))]⟩]) <|
  .block 2 (.seq (ax [ar 38 0 5,an 39 38,aG 40 116 [39],bL 41 40,aa 37 41]) <|
  .cond (.tmp 37) (ax [aa 42 0,aM 43 2 5,cG 44 96 [(.tmp 42),(.tmp 43),(.val (.val (.int .i64 3)))]]) (.seq (ax [aa 46 0,bA 47 46,ar 48 0 47,aM 49 4 48,ar 50 0 5,an 51 50,aG 52 114 [49,51],ay 53 .geq 52 0,aa 45 53]) <|
  .cond (.tmp 45) (ax [aa 54 0,aM 55 2 5,cG 56 96 [(.tmp 54),(.tmp 55),(.val (.val (.int .i64 7)))]]) (.seq (ax [aa 58 0,bA 59 58,ar 60 0 59,aM 61 4 60,ar 62 0 5,an 63 62,aG 64 95 [61,63],ay 65 .geq 64 0,aa 57 65]) <|
  .cond (.tmp 57) (.skip) (.seq (ax [aa 67 0,bA 68 67,ar 69 0 68,ar 70 1 69,an 71 70,aL 72 71,ay 73 .eql 72 16,aa 66 73]) <|
  .cond (.tmp 66) (ax [aa 74 0,aM 75 2 5,cG 76 96 [(.tmp 74),(.tmp 75),(.val (.val (.int .i64 5)))]]) (.region [] [⟨none,[aa 24 0,aa 25 0,bA 26 25,ar 27 0 26,ar 28 1 27,an 29 28,ar 30 0 5,an 31 30,((some 32),.op (.bH 1 1 [(.val (.string ⟨#[]⟩))] [(0,(.tmp 31))])),((some 33),.op (.app 1 16 (.tmp 29) (.tmp 32))),bA 34 24,ar 35 0 34,ar 36 1 35,(none,.op (.store 1 (.tmp 36) (.tmp 33)))]⟩]))))))) <|
  ax [aa 17 4,ay 18 .add 17 1,aa 4 18]
def gY:DF:=⟨.seq (ax [aH 4 0]) <|
  .block 0 (.loop ng),
  [],77⟩
theorem mU:bC Tryz.prog 93 []=some gY:=by kernel_rfl
def x9:List (FuncId × DF):=[(33,mb),(51,lu),(90,kR),(131,mT),(159,nD),(160,mj),(161,mS),(162,kk),(178,kH),(132,oK),(163,oM),(133,nz),(149,ly),(148,lf),(147,j3),(164,j7),(165,ka),(166,mZ),(91,oI),(137,gK),(136,gn),(167,gM),(168,iS),(135,gT),(138,gP),(134,gu),(52,ln),(94,iT),(113,lC),(116,mh),(96,iR),(140,gV),(95,nE),(114,ml),(170,fV),(92,g9),(139,gw),(169,nr),(93,gY)]
theorem Dz:uL Tryz.prog x9:=by
  intro p hp
  simp only[x9,List.mem_cons,List.not_mem_nil,or_false] at hp
  rcases hp with rfl | rfl | rfl | rfl | rfl | rfl | rfl | rfl | rfl | rfl | rfl | rfl | rfl | rfl | rfl | rfl | rfl | rfl | rfl | rfl | rfl | rfl | rfl | rfl | rfl | rfl | rfl | rfl | rfl | rfl | rfl | rfl | rfl | rfl | rfl | rfl | rfl | rfl | rfl
  · exact ⟨_,qO⟩
  · exact ⟨_,qb⟩
  · exact ⟨_,oW⟩
  · exact ⟨_,qR⟩
  · exact ⟨_,rC⟩
  · exact ⟨_,qX⟩
  · exact ⟨_,qA⟩
  · exact ⟨_,oX⟩
  · exact ⟨_,oY⟩
  · exact ⟨_,sQ⟩
  · exact ⟨_,sP⟩
  · exact ⟨_,rM⟩
  · exact ⟨_,pO⟩
  · exact ⟨_,p5⟩
  · exact ⟨_,oy⟩
  · exact ⟨_,oT⟩
  · exact ⟨_,ov⟩
  · exact ⟨_,qS⟩
  · exact ⟨_,sV⟩
  · exact ⟨_,lE⟩
  · exact ⟨_,kY⟩
  · exact ⟨_,lY⟩
  · exact ⟨_,nh⟩
  · exact ⟨_,lG⟩
  · exact ⟨_,lD⟩
  · exact ⟨_,k6⟩
  · exact ⟨_,pX⟩
  · exact ⟨_,nf⟩
  · exact ⟨_,qf⟩
  · exact ⟨_,qy⟩
  · exact ⟨_,m9⟩
  · exact ⟨_,lN⟩
  · exact ⟨_,rV⟩
  · exact ⟨_,qo⟩
  · exact ⟨_,kE⟩
  · exact ⟨_,mn⟩
  · exact ⟨_,kZ⟩
  · exact ⟨_,rD⟩
  · exact ⟨_,mU⟩
def tx (l:List Int):V:=.bc (l.map fun x=>[gy x])
theorem Ey (l:List Int):Tree (tx l):=fX _ _ fun x _ v hv=>by simp at hv; subst hv; exact .val _
def j8 (g:av):V:=.bz [.agg (ao g),.val (.complex .f64 0 0),gi 0]
theorem Ci {l:List Int} {g:av} (h:uB Tryz.prog x9 (fun _ _=>none) 33 [tx l]=some (j8 g)):cx Tryz.prog 33 [tx l] (j8 g) :=
  wk mixed Dz (HW _) (by intro v hv; simp at hv; subst hv; exact Ey _) h
end Gv
set_option linter.unusedSimpArgs false
namespace Gv
open Go
abbrev cw (κ:Type):=List (κ × V × Nat)
def dE {κ:Type} (key:κ→Value) (m:cw κ):List (V × V × Nat):=m.map fun x=>(.val (key x.1),x.2.1,x.2.2)
def getM {κ:Type} [BEq κ] (m:cw κ) (k:κ):Option V:=(m.find? fun x=>k == x.1).map (·.2.1)
def bR {κ:Type} [BEq κ] (k:κ) (v:V) (c:Nat):cw κ→cw κ
  | []=>[(k,v,c)]
  | x :: r=>if k == x.1 then (k,v,x.2.2) :: r else x :: bR k v c r
structure yc {κ:Type} [BEq κ] (P:Program) (kt:TypeId) (key:κ→Value):Prop where
  ty:∃ d,P.underlying kt=some d∧(∀ a b,Instr.sameNow d (key a) (key b)=some (a == b))∧(∀ a e,bf P (Instr.checkKey e 10000 kt (key a))=some ())
  bits:∀ a b,(a == b)=true→Instr.sameBits 10000 (key b) (key a)=true
theorem ql {κ:Type} (key:κ→Value):∀ m:cw κ,eK (dE key m)=some (m.map fun x=>{ key:=key x.1,val:=.nilFunc,born:=x.2.2 })
  | []=>rfl
  | x :: r=>by
    have:=ql key r
    simp only[dE] at this
    simp[dE,eK,cB,this]
def eo {κ:Type} [BEq κ] (k:κ):cw κ→Option Nat
  | []=>none
  | x :: r=>if k == x.1 then some 0 else (eo k r).map (·+1)
theorem vm {κ:Type} [BEq κ] {key:κ→Value} {d:TypeDesc} (h:∀ a b,Instr.sameNow d (key a) (key b)=some (a == b)) (k:κ):∀ (m:cw κ) (i:Nat),
    Instr.findNow d (key k) (m.map fun x=>{ key:=key x.1,val:=.nilFunc,born:=x.2.2 }) i=some ((eo k m).map fun j=>(i+j,.nilFunc))
  | [],i=>rfl
  | x :: r,i=>by
    simp only[List.map_cons,Instr.findNow,h,eo]
    cases hk:k == x.1 with
    | true=>simp
    | false =>
      simp only[vm h k r (i+1),Bool.false_eq_true,if_false,Option.map_map]
      congr 2
      funext j
      simp only[Function.comp]
      congr 1
      omega
theorem tU {κ:Type} [BEq κ] {P:Program} {kt:TypeId} {key:κ→Value} (h:yc P kt key) (k:κ) (e:Bool) (m:cw κ):jw P kt (.val (key k)) e (dE key m)=some (eo k m):=by
  obtain ⟨d,hd,hn,hc⟩:=h.ty
  have hu:bf P (underlying kt)=some d:=cL hd
  simp only[jw,cB,ql,ba,hc,Option.bind_some]
  have:bf P (Instr.findKey kt (key k) (m.map fun x=>{ key:=key x.1,val:=.nilFunc,born:=x.2.2 }))=some ((eo k m).map fun j=>(0+j,.nilFunc)):=by
    unfold Instr.findKey
    rw[ba,hu,Option.bind_some,vm hn]
    rfl
  rw[this]
  cases eo k m with
  | none=>rfl
  | some j=>simp
theorem xH {P:Program} {kt:TypeId} {d:TypeDesc} (h:P.underlying kt=some d) (hd:match d with | .int _ | .string | .bool=>True | _=>False) (e:Bool) (n:Nat) (v:Value):bf P (Instr.checkKey e (n+1) kt v)=some ():=by
  unfold Instr.checkKey
  rw[ba,cL h,Option.bind_some]
  cases d <;> first | exact hd.elim | rfl
theorem m3 {P:Program} {kt:TypeId} (k:IntKind) (h:P.underlying kt=some (.int k)):yc P kt (Value.int k) where
  ty:=⟨_,h,fun a b=>by simp[Instr.sameNow],fun a e=>xH h trivial e 9999 _⟩
  bits:=fun a b hab=>by
    have:a=b:=by simpa using hab
    subst this
    simp[Instr.sameBits]
theorem rj {κ:Type} [BEq κ] {key:κ→Value} (k:κ):∀ m:cw κ,match eo k m with
    | some i=>∃ x,m[i]?=some x∧(k == x.1)=true∧getM m k=some x.2.1∧(dE key m)[i]?=some (.val (key x.1),x.2.1,x.2.2)∧∀ v c,(dE key m).set i (.val (key k),v,x.2.2)=dE key (bR k v c m)∧(bR k v c m).length=m.length
    | none=>getM m k=none∧∀ v c,dE key m ++ [(.val (key k),v,c)]=dE key (bR k v c m)∧(bR k v c m).length=m.length+1
  | []=>⟨rfl,fun v c=>⟨rfl,rfl⟩⟩
  | x :: r=>by
    have ih:=rj (key:=key) k r
    simp only[eo]
    cases hk:k == x.1 with
    | true=>exact ⟨x,rfl,hk,by simp[getM,hk],rfl,fun v c=>by simp[bR,hk,dE]⟩
    | false =>
      simp only[Bool.false_eq_true,if_false]
      cases hi:eo k r with
      | some i =>
        rw[hi] at ih
        obtain ⟨y,h1,h2,h3,h4,h5⟩:=ih
        refine ⟨y,by simpa using h1,h2,by simpa [getM,hk] using h3,by simpa [dE] using h4,fun v c=>?_⟩
        obtain ⟨g1,g2⟩:=h5 v c
        exact ⟨by simp only[dE] at g1 ⊢; simp[bR,hk,g1],by simp[bR,hk,g2]⟩
      | none =>
        rw[hi] at ih
        refine ⟨by simpa [getM,hk] using ih.1,fun v c=>?_⟩
        obtain ⟨g1,g2⟩:=ih.2 v c
        exact ⟨by simp only[dE] at g1 ⊢; simp[bR,hk,g1],by simp[bR,hk,g2]⟩
section
variable {P:Program} {T:Env} {H:View} {κ:Type} [BEq κ] {key:κ→Value} {kt et t ty:TypeId}
theorem zP {K:V→View→Prop} {w:cn (T,H,K)} {x i:Operand} {z:V} {id c:Nat} {m:cw κ} {k:κ} (hm:c4 P t=some (kt,et)) (hz:zeroV P et=some z) (hk:yc P kt key)
    (hx:ev T x=.mp id) (hi:ev T i=.val (key k)) (hH:H id=.map (dE key m) c) (h:K ((getM m k).getD z) H):nO P (.lookup t x i false) ty T H K w:=by
  intro n _
  have hf:=tU hk k (dE key m).isEmpty m
  have hg:=rj (key:=key) k m
  refine ⟨(getM m k).getD z,.none,[id],?_,h⟩
  simp only[sI,bN,oper,dr,hm,hz,hx,hi,hH,hf]
  cases hj:eo k m with
  | some j =>
    rw[hj] at hg
    obtain ⟨y,h1,h2,h3,h4,_⟩:=hg
    simp[h4,h3]
  | none =>
    rw[hj] at hg
    simp[hg.1]
theorem JU {K:V→View→Prop} {w:cn (T,H,K)} {x i:Operand} {z:V} {id c:Nat} {m:cw κ} {k:κ} (hm:c4 P t=some (kt,et)) (hz:zeroV P et=some z) (hk:yc P kt key)
    (hx:ev T x=.mp id) (hi:ev T i=.val (key k)) (hH:H id=.map (dE key m) c) (h:K (.bz [(getM m k).getD z,.val (.bool (getM m k).isSome)]) H):nO P (.lookup t x i true) ty T H K w:=by
  intro n _
  have hf:=tU hk k (dE key m).isEmpty m
  have hg:=rj (key:=key) k m
  refine ⟨_,.none,[id],?_,h⟩
  simp only[sI,bN,oper,dr,hm,hz,hx,hi,hH,hf]
  cases hj:eo k m with
  | some j =>
    rw[hj] at hg
    obtain ⟨y,h1,h2,h3,h4,_⟩:=hg
    simp[h4,h3]
  | none =>
    rw[hj] at hg
    simp[hg.1]
theorem HG (hk:yc P kt key) (k k':κ) (h:(k == k')=true):sameKey (.val (key k')) (.val (key k))=true:=by
  simp only[sameKey,cB]; exact hk.bits _ _ h
theorem Ap {K:V→View→Prop} {w:cn (T,H,K)} {x i y:Operand} {id c:Nat} {m:cw κ} {k:κ} {v:V} (hm:c4 P t=some (kt,et)) (hk:yc P kt key)
    (hx:ev T x=.mp id) (hi:ev T i=.val (key k)) (hy:ev T y=v) (hH:H id=.map (dE key m) c)
    (h:∀ c',K .any (H.set id (.map (dE key (bR k v c m)) c'))):nO P (.mapUpdate t x i y) ty T H K w:=by
  intro n _
  have hf:=tU hk k false m
  have hg:=rj (key:=key) k m
  cases hj:eo k m with
  | some j =>
    rw[hj] at hg hf
    obtain ⟨z,h1,h2,h3,h4,h5⟩:=hg
    refine ⟨.any,.dN id (.map ((dE key m).set j (.val (key k),v,z.2.2)) c),[id],?_,?_⟩
    · simp only[sI,bN,oper,gj,hm,hx,hi,hy,hH,hf,h4,HG hk k z.1 h2,if_true]
    · rw[(h5 v c).1]; exact h c
  | none =>
    rw[hj] at hg hf
    refine ⟨.any,.dN id (.map (dE key m ++ [(.val (key k),v,c)]) (c+1)),[id],?_,?_⟩
    · simp only[sI,bN,oper,gj,hm,hx,hi,hy,hH,hf]
    · rw[(hg.2 v c).1]; exact h (c+1)
omit [BEq κ] in
theorem I4 {K:V→View→Prop} {w:cn (T,H,K)} {x:Operand} {id c:Nat} {m:cw κ} (hm:c4 P t=some (kt,et)) (hx:ev T x=.mp id) (hH:H id=.map (dE key m) c) (h:K (ak m.length) H) :
    nO P (.call { callee:=.builtin .len,args:=#[x],argTypes:=#[t] }) ty T H K w:=by
  intro n _
  have hu:∃ a b,P.underlying t=some (.map a b):=by
    unfold c4 at hm
    split at hm
    · rename_i a b h1; exact ⟨a,b,h1⟩
    · simp at hm
  obtain ⟨a,b,hu⟩:=hu
  refine ⟨ak m.length,.none,[id],?_,h⟩
  have hl:(dE key m).length=m.length:=by simp[dE]
  simp only[sI,bN,oper,List.size_toArray,List.length_cons,List.length_nil,pP,hu,hx,hH,hl]
  simp[hu,hx,hH,hl,pP]
end
theorem oR {κ:Type} [BEq κ] [LawfulBEq κ] (k k':κ) (v:V) (c:Nat):∀ m:cw κ,getM (bR k v c m) k'=if k' == k then some v else getM m k'
  | []=>by
    by_cases h:k'=k
    · subst h; simp[bR,getM]
    · simp[bR,getM,h]
  | x :: r=>by
    have ih:=oR k k' v c r
    simp only[bR]
    by_cases hk:k=x.1
    · by_cases h:k'=k
      · subst h; simp[hk,getM]
      · have:¬ k'=x.1:=fun e=>h (e.trans hk.symm)
        simp[hk,getM,this]
    · simp only[beq_iff_eq,hk,if_false]
      by_cases h:k'=x.1
      · have:¬ k'=k:=fun e=>hk (e.symm.trans h)
        simp[getM,h]
        subst h
        simp[this]
      · simp only[getM,List.find?_cons,beq_eq_false_iff_ne.2 h] at ih ⊢
        exact ih
def c3 {κ β:Type} [BEq κ] (a:List (κ × β)) (k:κ):Option β:=(a.find? fun x=>k == x.1).map (·.2)
def gF {κ β:Type} [BEq κ] (k:κ) (v:β):List (κ × β)→List (κ × β)
  | []=>[(k,v)]
  | x :: r=>if k == x.1 then (k,v) :: r else x :: gF k v r
def kc {κ β:Type} (encV:β→V):List (κ × β)→cw κ→Prop
  | [],[]=>True
  | x :: a,y :: m=>y.1=x.1∧y.2.1=encV x.2∧kc encV a m
  | _,_=>False
theorem kc.get {κ β:Type} [BEq κ] {encV:β→V} (k:κ):∀ {a:List (κ × β)} {m:cw κ},kc encV a m→getM m k=(c3 a k).map encV
  | [],[],_=>rfl
  | x :: a,y :: m,⟨h1,h2,h3⟩=>by
    have ih:=kc.get k h3
    simp only[getM,c3,List.find?_cons,h1] at ih ⊢
    cases k == x.1 with
    | true=>simp[h2]
    | false=>simpa using ih
theorem kc.put {κ β:Type} [BEq κ] {encV:β→V} (k:κ) (v:β) (c:Nat):∀ {a:List (κ × β)} {m:cw κ},kc encV a m→kc encV (gF k v a) (bR k (encV v) c m)
  | [],[],_=>⟨rfl,rfl,trivial⟩
  | x :: a,y :: m,⟨h1,h2,h3⟩=>by
    have ih:=kc.put k v c h3
    simp only[gF,bR,h1]
    cases k == x.1 with
    | true=>exact ⟨rfl,rfl,h3⟩
    | false=>exact ⟨h1,h2,ih⟩
theorem kc.len {κ β:Type} {encV:β→V} : ∀ {a:List (κ × β)} {m:cw κ},kc encV a m→m.length=a.length
  | [],[],_=>rfl
  | x :: a,y :: m,⟨_,_,h3⟩=>by simp[kc.len h3]
theorem Az {κ β:Type} [BEq κ] [LawfulBEq κ] (k k':κ) (v:β):∀ a:List (κ × β),c3 (gF k v a) k'=if k' == k then some v else c3 a k'
  | []=>by
    by_cases h:k'=k
    · subst h; simp[gF,c3]
    · simp[gF,c3,h]
  | x :: r=>by
    have ih:=Az k k' v r
    simp only[gF]
    by_cases hk:k=x.1
    · by_cases h:k'=k
      · subst h; simp[hk,c3]
      · have:¬ k'=x.1:=fun e=>h (e.trans hk.symm)
        simp[hk,c3,this]
    · simp only[beq_iff_eq,hk,if_false]
      by_cases h:k'=x.1
      · have:¬ k'=k:=fun e=>hk (e.symm.trans h)
        simp[c3,h]
        subst h
        simp[this]
      · simp only[c3,List.find?_cons,beq_eq_false_iff_ne.2 h] at ih ⊢
        exact ih
def yB (n k:Nat) (J:Nat→Env→View→Prop) (T:Env) (H:View):Prop:=∃ i,i+k=n∧J i T H
theorem bo.up {P:Program} {T:Env} {H:View} {c:SC} {Q:Exit→Env→View→Prop} {v:cn (T,H,Q)} (n:Nat) (J:Nat→Env→View→Prop) (h0:J 0 T H)
    (hs:∀ i k T H,i+k=n→J i T H→wS P c T H fun e T' H'=>xq e (∃ k',k' < k∧yB n k' J T' H') (Q e T' H')):bo P c T H Q v :=
  bo.intro (fun k T H=>yB n k J T H) n ⟨0,by omega,h0⟩ fun k T H ⟨i,hk,hj⟩=>hs i k T H hk hj
theorem aV {n i k:Nat} {J:Nat→Env→View→Prop} {T:Env} {H:View} (hk:i+k=n) (hlt:i < n) (hJ:J (i+1) T H):∃ k',k' < k∧yB n k' J T H:=⟨k - 1,by omega,i+1,by omega,hJ⟩
end Gv
