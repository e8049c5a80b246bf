/-
  Part 8 of the proof: what the machine does and what the functions answer.
  Conditions: those that each lemma names.
-/
import Derived.Test.YtomcjampldmjoaaGreatSGzWG
set_option linter.unusedSimpArgs false
set_option linter.unusedVariables false
set_option maxRecDepth 100000
namespace Gv
open Go Go.Proofs
def ni:DF:=⟨.seq (ah [((some 2),.op (.alloc [(.emp 1),(.emp 1),(.emp 1),(.val (.int .i64 0))])),((some 3),.op (.aW (.val (.val (.complex .f64 0 0))))),aA 4 0]) <|
  .seq (ah [aa 9 0,aI 10 70 [9],aa 8 10,bq 11 0 8,bq 12 1 8,bq 13 2 8,((some 5),.op (.alloc [(.emp 1),(.emp 1)])),(none,.op (.store 2 (.tmp 5) (.tmp 11))),aa 6 12,aa 7 13]) <|
  .seq (.seq (ah [aa 14 7,au 15 .neq 14 0]) <|
  .cond (.tmp 15) (.seq (ah [((some 16),.op (.build [(.emp 1),(.emp 1),(.emp 1),(.val (.int .i64 0))] [])),aa 17 6,aa 18 7,(none,.op (.store 4 (.tmp 2) (.tmp 16))),aa 3 17,aa 4 18]) <|
  .ret) (.skip)) <|
  .seq (ah [aH 19 2 5,aI 20 71 [19],bq 21 0 20,bq 22 1 20,bq 23 2 20,(none,.op (.store 4 (.tmp 2) (.tmp 21))),aa 3 22,aa 4 23]) <|
  .ret,
  [.cell 2 (some 4),.tmp 3,.tmp 4],24⟩
theorem rO:aK Tryz.prog 41 []=some ni:=by kernel_rfl
def lq:DF:=⟨.seq (ah [((some 2),.op (.alloc [(.emp 1),(.emp 1)])),((some 3),.op (.aW (.val (.val (.complex .f64 0 0))))),aA 4 0]) <|
  .seq (ah [aa 9 0,aI 10 120 [9],aa 8 10,bq 11 0 8,bq 12 1 8,bq 13 2 8,aa 5 11,aa 6 12,aa 7 13]) <|
  .seq (.seq (ah [aa 14 7,au 15 .neq 14 0]) <|
  .cond (.tmp 15) (.seq (ah [((some 16),.op (.build [(.emp 1),(.emp 1)] [])),aa 17 6,aa 18 7,(none,.op (.store 2 (.tmp 2) (.tmp 16))),aa 3 17,aa 4 18]) <|
  .ret) (.skip)) <|
  .seq (ah [aa 19 5,aa 20 6,aI 21 121 [19,20],bq 22 0 21,bq 23 1 21,bq 24 2 21,(none,.op (.store 2 (.tmp 2) (.tmp 22))),aa 3 23,aa 4 24]) <|
  .ret,
  [.cell 2 (some 2),.tmp 3,.tmp 4],25⟩
theorem qC:aK Tryz.prog 70 []=some lq:=by kernel_rfl
def qH:DC :=
  .seq (.seq (.region [] [⟨none,[aa 16 6,aa 17 0,aC 18 17,aF 19 .lss 16 18,aa 20 19]⟩,⟨(some (20,true)),[aa 21 7,au 22 .lss 21 2]⟩,⟨none,[bj 23 20 22]⟩]) <|
  .cond (.tmp 23) (.skip) (.exit 0)) <|
  .block 1 (.seq (ah [aa 25 0,aa 26 6,aI 27 176 [25,26],aa 24 27,bq 28 0 24,bq 29 1 24,aa 8 28,aa 9 29]) <|
  .seq (.seq (ah [aa 30 8,au 31 .lss 30 0]) <|
  .cond (.tmp 31) (.seq (ah [aa 32 0,aa 33 6,aI 34 177 [32,33],((some 2),.op (.aW (.val (.emp 1)))),aa 3 34,aA 4 4]) <|
  .ret) (.skip)) <|
  .seq (.seq (ah [aa 35 9]) <|
  .cond (.tmp 35) (.seq (ah [aa 36 8,aa 6 36]) <|
  .exit 1) (.skip)) <|
  .seq (.region [] [⟨none,[aa 38 0,aa 39 6,aI 40 178 [38,39],aa 37 40,bq 41 0 37,bq 42 1 37,bq 43 2 37,((some 10),.op (.alloc [(.val (.int .i64 0)),(.val (.string ⟨#[]⟩)),(.val (.complex .f64 0 0))])),(none,.op (.store 3 (.tmp 10) (.tmp 41))),aa 11 42,aa 12 43]⟩]) <|
  .seq (.seq (ah [aa 44 12,au 45 .neq 44 0]) <|
  .cond (.tmp 45) (.seq (ah [an 46 2 10,ak 47 46,aa 48 12,((some 2),.op (.aW (.val (.emp 1)))),aa 3 47,aa 4 48]) <|
  .ret) (.skip)) <|
  .seq (.seq (ah [an 49 0 10,ak 50 49,au 51 .eql 50 9]) <|
  .cond (.tmp 51) (ah [aa 52 7,au 53 .add 52 1,aa 7 53]) (.skip)) <|
  .region [] [⟨none,[aa 54 5,aH 55 3 10,((some 56),.op (.aS 1 3 [(.val (.int .i64 0)),(.val (.string ⟨#[]⟩)),(.val (.complex .f64 0 0))] [(0,(.tmp 55))])),((some 57),.op (.app 3 40 (.tmp 54) (.tmp 56))),aa 58 11,aa 5 57,aa 6 58]⟩])
def kj:DF:=⟨.seq (ah [((some 2),.op (.aW (.val (.emp 1)))),((some 3),.op (.aW (.val (.val (.complex .f64 0 0))))),aA 4 0]) <|
  .seq (.seq (ah [aa 13 0,aC 14 13,au 15 .gtr 14 4000]) <|
  .cond (.tmp 15) (.seq (ah [((some 2),.op (.aW (.val (.emp 1)))),((some 3),.op (.aW (.val (.val (.complex .f64 0 0))))),aA 4 5]) <|
  .ret) (.skip)) <|
  .seq (ah [((some 5),.op (.aW (.val (.emp 1))))]) <|
  .seq (ah [aA 6 0,aA 7 0]) <|
  .seq (.block 0 (.loop qH)) <|
  .seq (ah [aa 59 5,aa 60 0,aa 61 0,aC 62 61,aI 63 177 [60,62],aa 2 59,aa 3 63,aA 4 0]) <|
  .ret,
  [.tmp 2,.tmp 3,.tmp 4],64⟩
theorem pP:aK Tryz.prog 120 []=some kj:=by kernel_rfl
def mL:DF:=⟨.seq (ah [aA 4 0,aN 5 false]) <|
  .seq (.block 0 (.seq (.region [] [⟨none,[aa 7 0,aa 8 1,aG 9 1 7 8,ak 10 9,((some 11),.op (.arith .eql (.tmp 10) (.val (.val (.int .u8 32))))),aa 12 11]⟩,⟨(some (12,false)),[aa 13 0,aa 14 1,aG 15 1 13 14,ak 16 15,((some 17),.op (.arith .eql (.tmp 16) (.val (.val (.int .u8 9)))))]⟩,⟨none,[aX 18 12 17,aa 19 18]⟩,⟨(some (19,false)),[aa 20 0,aa 21 1,aG 22 1 20 21,ak 23 22,((some 24),.op (.arith .eql (.tmp 23) (.val (.val (.int .u8 10)))))]⟩,⟨none,[aX 25 19 24,aa 26 25]⟩,⟨(some (26,false)),[aa 27 0,aa 28 1,aG 29 1 27 28,ak 30 29,((some 31),.op (.arith .eql (.tmp 30) (.val (.val (.int .u8 13)))))]⟩,⟨none,[aX 32 26 31,aa 6 32]⟩]) <|
  .cond (.tmp 6) (.seq (ah [aa 33 1,au 34 .add 33 1,aa 4 34,aN 5 true]) <|
  .ret) (.seq (.region [] [⟨none,[aa 36 0,aa 37 1,cp 38 215 [(.tmp 36),(.tmp 37),(.val (.val (.string ⟨#[47,42]⟩)))],aa 35 38]⟩]) <|
  .cond (.tmp 35) (.seq (.region [] [⟨none,[aa 39 0,aa 40 1,au 41 .add 40 2,cp 42 216 [(.tmp 39),(.tmp 41),(.val (.val (.string ⟨#[42,47]⟩)))],aa 4 42,aN 5 true]⟩]) <|
  .ret) (.seq (.region [] [⟨none,[aa 44 0,aa 45 1,cp 46 215 [(.tmp 44),(.tmp 45),(.val (.val (.string ⟨#[47,47]⟩)))],aa 43 46]⟩]) <|
  .cond (.tmp 43) (.seq (ah [aa 47 0,aa 48 1,aI 49 217 [47,48],aa 4 49,aN 5 true]) <|
  .ret) (.seq (.region [] [⟨none,[aa 51 0,aa 52 1,cp 53 215 [(.tmp 51),(.tmp 52),(.val (.val (.string ⟨#[37,123]⟩)))],aa 50 53]⟩]) <|
  .cond (.tmp 50) (.seq (.region [] [⟨none,[aa 54 0,aa 55 1,au 56 .add 55 2,cp 57 216 [(.tmp 54),(.tmp 56),(.val (.val (.string ⟨#[37,125]⟩)))],aa 4 57,aN 5 true]⟩]) <|
  .ret) (.seq (ah [aa 59 0,aa 60 1,aG 61 1 59 60,ak 62 61,((some 63),.op (.arith .eql (.tmp 62) (.val (.val (.int .u8 60))))),aa 58 63]) <|
  .cond (.tmp 58) (.seq (.region [] [⟨none,[aa 64 0,aa 65 0,aa 66 1,aI 67 217 [65,66],((some 68),.op (.slice 1 (.tmp 64) none (some (.tmp 67)))),aa 69 1,au 70 .add 69 1,cp 71 216 [(.tmp 68),(.tmp 70),(.val (.val (.string ⟨#[62]⟩)))],aa 4 71,aN 5 true]⟩]) <|
  .ret) (.seq (ah [aa 73 0,aa 74 1,aG 75 1 73 74,ak 76 75,((some 77),.op (.arith .eql (.tmp 76) (.val (.val (.int .u8 123))))),aa 72 77]) <|
  .cond (.tmp 72) (.seq (ah [aa 78 0,aa 79 1,aI 80 218 [78,79],aa 4 80,aN 5 true]) <|
  .ret) (.skip)))))))) <|
  .seq (ah [aa 81 1,aa 4 81,aN 5 false]) <|
  .ret,
  [.tmp 4,.tmp 5],82⟩
theorem sN:aK Tryz.prog 176 []=some mL:=by kernel_rfl
def nZ:DF:=⟨.seq (ah [aN 6 false]) <|
  .seq (.region [] [⟨none,[aa 7 1,aa 8 2,((some 9),.op (.fp (.tmp 8))),aF 10 .add 7 9,aa 11 0,aC 12 11,aF 13 .leq 10 12,aa 14 13]⟩,⟨(some (14,true)),[aa 15 0,aa 16 1,aa 17 1,aa 18 2,((some 19),.op (.fp (.tmp 18))),aF 20 .add 17 19,((some 21),.op (.slice 1 (.tmp 15) (some (.tmp 16)) (some (.tmp 20)))),((some 22),.op (.old (.convert 73 9 (.tmp 21)) 9)),aa 23 2,((some 24),.op (.gD .eql (.tmp 22) (.tmp 23)))]⟩,⟨none,[bj 25 14 24,aa 6 25]⟩]) <|
  .ret,
  [.tmp 6],26⟩
theorem tX:aK Tryz.prog 215 []=some nZ:=by kernel_rfl
def uo:DC :=
  .seq (.seq (ah [aa 7 1,aa 8 0,aC 9 8,aF 10 .lss 7 9]) <|
  .cond (.tmp 10) (.skip) (.exit 0)) <|
  .block 1 (.seq (.seq (ah [aa 11 0,aa 12 1,aa 13 2,aI 14 215 [11,12,13]]) <|
  .cond (.tmp 14) (.seq (ah [aa 15 1,aa 16 2,((some 17),.op (.fp (.tmp 16))),aF 18 .add 15 17,aa 6 18]) <|
  .ret) (.skip)) <|
  ah [aa 19 1,au 20 .add 19 1,aa 1 20])
def mj:DF:=⟨.seq (ah [aA 6 0]) <|
  .seq (.block 0 (.loop uo)) <|
  .seq (ah [aA 6 (-1)]) <|
  .ret,
  [.tmp 6],21⟩
theorem sV:aK Tryz.prog 216 []=some mj:=by kernel_rfl
def tY:DC :=
  .seq (.seq (.region [] [⟨none,[aa 5 1,aa 6 0,aC 7 6,aF 8 .lss 5 7,aa 9 8]⟩,⟨(some (9,true)),[aa 10 0,aa 11 1,aG 12 1 10 11,ak 13 12,((some 14),.op (.arith .neq (.tmp 13) (.val (.val (.int .u8 10)))))]⟩,⟨none,[bj 15 9 14]⟩]) <|
  .cond (.tmp 15) (.skip) (.exit 0)) <|
  .block 1 (ah [aa 16 1,au 17 .add 16 1,aa 1 17])
def m6:DF:=⟨.seq (ah [aA 4 0]) <|
  .seq (.block 0 (.loop tY)) <|
  .seq (ah [aa 18 1,aa 4 18]) <|
  .ret,
  [.tmp 4],19⟩
theorem rr:aK Tryz.prog 217 []=some m6:=by kernel_rfl
def rj:DC :=
  .seq (.seq (.region [] [⟨none,[aa 6 1,au 7 .geq 6 0,aa 8 7]⟩,⟨(some (8,true)),[aa 9 1,aa 10 0,aC 11 10,aF 12 .lss 9 11]⟩,⟨none,[bj 13 8 12]⟩]) <|
  .cond (.tmp 13) (.skip) (.exit 0)) <|
  .block 1 (.seq (.seq (ah [aa 14 0,aa 15 1,aG 16 1 14 15,ak 17 16]) <|
  .block 2 (.seq (ah [((some 21),.op (.arith .eql (.tmp 17) (.val (.val (.int .u8 123))))),aa 20 21]) <|
  .cond (.tmp 20) (.seq (ah [aa 22 5,au 23 .add 22 1,aa 5 23]) <|
  ah [aa 24 1,au 25 .add 24 1,aa 1 25]) (.seq (ah [((some 27),.op (.arith .eql (.tmp 17) (.val (.val (.int .u8 125))))),aa 26 27]) <|
  .cond (.tmp 26) (.seq (ah [aa 28 5,au 29 .sub 28 1,aa 5 29]) <|
  ah [aa 30 1,au 31 .add 30 1,aa 1 31]) (.seq (.seq (ah [((some 33),.op (.arith .eql (.tmp 17) (.val (.val (.int .u8 39))))),aa 32 33]) <|
  .cond (.tmp 32) (.skip) (ah [((some 34),.op (.arith .eql (.tmp 17) (.val (.val (.int .u8 34))))),aa 32 34])) <|
  .cond (.tmp 32) (ah [aa 35 0,aa 36 1,aI 37 234 [35,36],aa 1 37]) (ah [aa 18 1,au 19 .add 18 1,aa 1 19]))))) <|
  .seq (.region [] [⟨none,[aa 38 5,au 39 .eql 38 0,aa 40 39]⟩,⟨(some (40,true)),[aa 41 1,au 42 .geq 41 0]⟩,⟨none,[bj 43 40 42]⟩]) <|
  .cond (.tmp 43) (.seq (ah [aa 44 1,aa 4 44]) <|
  .ret) (.skip))
def kC:DF:=⟨.seq (ah [aA 4 0]) <|
  .seq (ah [aA 5 0]) <|
  .seq (.block 0 (.loop rj)) <|
  .seq (ah [aA 4 (-1)]) <|
  .ret,
  [.tmp 4],45⟩
theorem pK:aK Tryz.prog 218 []=some kC:=by kernel_rfl
def qS:DC :=
  .seq (.seq (ah [aa 12 1,aa 13 0,aC 14 13,aF 15 .lss 12 14]) <|
  .cond (.tmp 15) (.skip) (.exit 0)) <|
  .block 1 (.seq (.seq (ah [aa 16 0,aa 17 1,aG 18 1 16 17,ak 19 18,aa 20 5,aF 21 .eql 19 20]) <|
  .cond (.tmp 21) (.seq (ah [aa 22 1,au 23 .add 22 1,aa 4 23]) <|
  .ret) (.skip)) <|
  .seq (.seq (ah [aa 24 0,aa 25 1,aG 26 1 24 25,ak 27 26,((some 28),.op (.arith .eql (.tmp 27) (.val (.val (.int .u8 92)))))]) <|
  .cond (.tmp 28) (ah [aa 29 1,au 30 .add 29 1,aa 1 30]) (.skip)) <|
  ah [aa 31 1,au 32 .add 31 1,aa 1 32])
def kP:DF:=⟨.seq (ah [aA 4 0]) <|
  .seq (ah [aa 6 0,aa 7 1,aG 8 1 6 7,ak 9 8,aa 5 9]) <|
  .seq (ah [aa 10 1,au 11 .add 10 1,aa 1 11]) <|
  .seq (.block 0 (.loop qS)) <|
  .seq (ah [aA 4 (-1)]) <|
  .ret,
  [.tmp 4],33⟩
theorem pG:aK Tryz.prog 234 []=some kP:=by kernel_rfl
def we:DC :=
  .seq (.seq (ah [aa 16 7,aa 17 1,aF 18 .lss 16 17]) <|
  .cond (.tmp 18) (.skip) (.exit 0)) <|
  .seq (.block 1 (.seq (ah [aa 21 6,au 22 .add 21 1,aa 6 22]) <|
  .seq (ah [aa 23 0,aa 24 7,aG 25 1 23 24,ak 26 25,((some 27),.op (.arith .eql (.tmp 26) (.val (.val (.int .u8 10)))))]) <|
  .cond (.tmp 27) (ah [aa 28 5,au 29 .add 28 1,aa 5 29,aA 6 1]) (.skip))) <|
  ah [aa 19 7,au 20 .add 19 1,aa 7 20]
def o7:DF:=⟨.seq (ah [((some 4),.op (.aW (.val (.val (.complex .f64 0 0)))))]) <|
  .seq (.seq (.region [] [⟨none,[aa 8 1,au 9 .lss 8 0,aa 10 9]⟩,⟨(some (10,false)),[aa 11 1,aa 12 0,aC 13 12,aF 14 .gtr 11 13]⟩,⟨none,[aX 15 10 14]⟩]) <|
  .cond (.tmp 15) (.seq (ah [((some 4),.op (.aW (.val (.val (.complex .f64 0 0)))))]) <|
  .ret) (.skip)) <|
  .seq (ah [aA 5 1,aA 6 1]) <|
  .seq (.seq (ah [aA 7 0]) <|
  .block 0 (.loop we)) <|
  .seq (ah [aa 30 5,aa 31 6,aI 32 219 [30,31],aa 4 32]) <|
  .ret,
  [.tmp 4],33⟩
theorem ve:aK Tryz.prog 177 []=some o7:=by kernel_rfl
def po:DF:=⟨.seq (ah [((some 4),.op (.aW (.val (.val (.complex .f64 0 0)))))]) <|
  .seq (.seq (.region [] [⟨none,[aa 5 0,au 6 .lss 5 1,aa 7 6]⟩,⟨(some (7,false)),[aa 8 0,au 9 .gtr 8 1073741824]⟩,⟨none,[aX 10 7 9,aa 11 10]⟩,⟨(some (11,false)),[aa 12 1,au 13 .lss 12 1]⟩,⟨none,[aX 14 11 13,aa 15 14]⟩,⟨(some (15,false)),[aa 16 1,au 17 .gtr 16 1073741824]⟩,⟨none,[aX 18 15 17]⟩]) <|
  .cond (.tmp 18) (.seq (ah [((some 4),.op (.aW (.val (.val (.complex .f64 0 0)))))]) <|
  .ret) (.skip)) <|
  .seq (ah [aa 19 0,((some 20),.op (.old (.convert 3 311 (.tmp 19)) 311)),aa 21 1,((some 22),.op (.old (.convert 3 311 (.tmp 21)) 311)),((some 23),.op (.old (.call { callee:=.builtin .complex,args:=#[(.tmp 20),(.tmp 22)],argTypes:=#[311,311] }) 70)),aa 4 23]) <|
  .ret,
  [.tmp 4],24⟩
theorem uU:aK Tryz.prog 219 []=some po:=by kernel_rfl
def u5:DC :=
  .seq (.seq (.region [] [⟨none,[aa 27 9,aa 28 0,aC 29 28,aF 30 .lss 27 29,aa 31 30]⟩,⟨(some (31,true)),[aa 32 0,aa 33 9,aG 34 1 32 33,ak 35 34,aI 36 193 [35]]⟩,⟨none,[bj 37 31 36]⟩]) <|
  .cond (.tmp 37) (.skip) (.exit 1)) <|
  .block 2 (ah [aa 38 9,au 39 .add 38 1,aa 9 39])
def uX:DC :=
  .seq (.seq (ah [aa 58 10,au 59 .leq 58 4]) <|
  .cond (.tmp 59) (.skip) (.exit 3)) <|
  .seq (.block 4 (.seq (.region [] [⟨none,[aa 62 1,aa 63 10,aF 64 .add 62 63,aa 65 0,aC 66 65,aF 67 .leq 64 66,aa 68 67]⟩,⟨(some (68,true)),[aa 69 0,aa 70 1,aa 71 1,aa 72 10,aF 73 .add 71 72,((some 74),.op (.slice 1 (.tmp 69) (some (.tmp 70)) (some (.tmp 73)))),((some 75),.op (.old (.convert 73 9 (.tmp 74)) 9)),aI 76 191 [75]]⟩,⟨none,[bj 77 68 76]⟩]) <|
  .cond (.tmp 77) (.seq (.region [(6,8)] [⟨none,[aa 78 0,aa 79 1,aa 80 1,aa 81 10,aF 82 .add 80 81,((some 83),.op (.slice 1 (.tmp 78) (some (.tmp 79)) (some (.tmp 82)))),((some 84),.op (.old (.convert 73 9 (.tmp 83)) 9)),an 85 0 7,(none,.op (.store 1 (.tmp 85) (.val (.val (.int .i64 2))))),an 86 1 7,(none,.op (.store 1 (.tmp 86) (.tmp 84)))]⟩]) <|
  .seq (ah [aH 87 3 7,aa 88 1,aa 89 10,aF 90 .add 88 89,(none,.op (.store 3 (.tmp 4) (.tmp 87))),aa 5 90,aA 6 0]) <|
  .ret) (.skip))) <|
  ah [aa 60 10,au 61 .add 60 1,aa 10 61]
def uW:DC :=
  .seq (.seq (.region [] [⟨none,[aa 108 9,aa 109 0,aC 110 109,aF 111 .lss 108 110,aa 112 111]⟩,⟨(some (112,true)),[aa 113 0,aa 114 9,aG 115 1 113 114,ak 116 115,((some 117),.op (.arith .geq (.tmp 116) (.val (.val (.int .u8 97)))))]⟩,⟨none,[bj 118 112 117,aa 119 118]⟩,⟨(some (119,true)),[aa 120 0,aa 121 9,aG 122 1 120 121,ak 123 122,((some 124),.op (.arith .leq (.tmp 123) (.val (.val (.int .u8 122)))))]⟩,⟨none,[bj 125 119 124]⟩]) <|
  .cond (.tmp 125) (.skip) (.exit 5)) <|
  .block 6 (ah [aa 126 9,au 127 .add 126 1,aa 9 127])
def nQ:DF:=⟨.seq (.region [] [⟨none,[((some 4),.op (.alloc [(.val (.int .i64 0)),(.val (.string ⟨#[]⟩)),(.val (.complex .f64 0 0))])),aA 5 0,aA 6 0]⟩]) <|
  .seq (.region [] [⟨none,[aa 11 0,aa 12 1,aI 13 177 [11,12],((some 14),.op (.build [(.val (.int .i64 0)),(.val (.string ⟨#[]⟩)),(.val (.complex .f64 0 0))] [(2,1,(.tmp 13))])),((some 7),.op (.alloc [(.val (.int .i64 0)),(.val (.string ⟨#[]⟩)),(.val (.complex .f64 0 0))])),(none,.op (.store 3 (.tmp 7) (.tmp 14)))]⟩]) <|
  .seq (ah [aa 15 0,aa 16 1,aG 17 1 15 16,ak 18 17,aa 8 18]) <|
  .seq (ah [aa 19 1,au 20 .add 19 1,aa 9 20]) <|
  .seq (.block 0 (.seq (ah [aa 25 8,aI 26 192 [25],aa 24 26]) <|
  .cond (.tmp 24) (.seq (.block 1 (.loop u5)) <|
  .seq (.seq (ah [aa 40 9,aa 41 1,aF 42 .sub 40 41,au 43 .gtr 42 20]) <|
  .cond (.tmp 43) (.seq (ah [aH 44 3 7,aa 45 9,(none,.op (.store 3 (.tmp 4) (.tmp 44))),aa 5 45,aA 6 5]) <|
  .ret) (.skip)) <|
  .seq (.region [(4,6)] [⟨none,[aa 46 0,aa 47 1,aa 48 9,((some 49),.op (.slice 1 (.tmp 46) (some (.tmp 47)) (some (.tmp 48)))),((some 50),.op (.old (.convert 73 9 (.tmp 49)) 9)),an 51 0 7,(none,.op (.store 1 (.tmp 51) (.val (.val (.int .i64 1))))),an 52 1 7,(none,.op (.store 1 (.tmp 52) (.tmp 50)))]⟩]) <|
  .seq (ah [aH 53 3 7,aa 54 9,(none,.op (.store 3 (.tmp 4) (.tmp 53))),aa 5 54,aA 6 0]) <|
  .ret) (.seq (ah [aa 56 8,((some 57),.op (.arith .eql (.tmp 56) (.val (.val (.int .u8 39))))),aa 55 57]) <|
  .cond (.tmp 55) (.seq (.seq (ah [aA 10 3]) <|
  .block 3 (.loop uX)) <|
  .seq (.region [(0,5)] [⟨none,[aH 91 3 7,aa 92 9,aa 93 0,aa 94 1,((some 95),.op (.slice 1 (.tmp 93) (some (.tmp 94)) none)),aI 96 220 [95],(none,.op (.store 3 (.tmp 4) (.tmp 91))),aa 5 92,aa 6 96]⟩]) <|
  .ret) (.seq (.region [] [⟨none,[aa 98 0,aa 99 1,cp 100 215 [(.tmp 98),(.tmp 99),(.val (.val (.string ⟨#[37,37]⟩)))],aa 97 100]⟩]) <|
  .cond (.tmp 97) (.seq (ah [an 101 0 7,(none,.op (.store 1 (.tmp 101) (.val (.val (.int .i64 9)))))]) <|
  .seq (ah [aH 102 3 7,aa 103 1,au 104 .add 103 2,(none,.op (.store 3 (.tmp 4) (.tmp 102))),aa 5 104,aA 6 0]) <|
  .ret) (.seq (ah [aa 106 8,((some 107),.op (.arith .eql (.tmp 106) (.val (.val (.int .u8 37))))),aa 105 107]) <|
  .cond (.tmp 105) (.seq (.block 5 (.loop uW)) <|
  ah [aa 128 0,aa 129 1,au 130 .add 129 1,aa 131 9,((some 132),.op (.slice 1 (.tmp 128) (some (.tmp 130)) (some (.tmp 131)))),((some 133),.op (.old (.convert 73 9 (.tmp 132)) 9)),aI 134 221 [133],an 135 0 7,(none,.op (.store 1 (.tmp 135) (.tmp 134)))]) (ah [aa 21 8,aI 22 222 [21],an 23 0 7,(none,.op (.store 1 (.tmp 23) (.tmp 22)))])))))) <|
  .seq (.seq (ah [an 136 0 7,ak 137 136,au 138 .eql 137 0]) <|
  .cond (.tmp 138) (.seq (ah [aH 139 3 7,aa 140 9,(none,.op (.store 3 (.tmp 4) (.tmp 139))),aa 5 140,aA 6 3]) <|
  .ret) (.skip)) <|
  .seq (ah [aH 141 3 7,aa 142 9,(none,.op (.store 3 (.tmp 4) (.tmp 141))),aa 5 142,aA 6 0]) <|
  .ret,
  [.cell 4 (some 3),.tmp 5,.tmp 6],143⟩
theorem s9:aK Tryz.prog 178 []=some nQ:=by kernel_rfl
def lx:DF:=⟨.seq (ah [aN 2 false]) <|
  .seq (.region [] [⟨none,[aa 3 0,aI 4 192 [3],aa 5 4]⟩,⟨(some (5,false)),[aa 6 0,((some 7),.op (.arith .geq (.tmp 6) (.val (.val (.int .u8 48))))),aa 8 7]⟩,⟨(some (8,true)),[aa 9 0,((some 10),.op (.arith .leq (.tmp 9) (.val (.val (.int .u8 57)))))]⟩,⟨(some (5,false)),[bj 11 8 10]⟩,⟨none,[aX 12 5 11,aa 13 12]⟩,⟨(some (13,false)),[aa 14 0,((some 15),.op (.arith .eql (.tmp 14) (.val (.val (.int .u8 46)))))]⟩,⟨none,[aX 16 13 15,aa 2 16]⟩]) <|
  .ret,
  [.tmp 2],17⟩
theorem qK:aK Tryz.prog 193 []=some lx:=by kernel_rfl
def ly:DF:=⟨.seq (ah [aN 2 false]) <|
  .seq (.region [] [⟨none,[aa 3 0,((some 4),.op (.arith .geq (.tmp 3) (.val (.val (.int .u8 97))))),aa 5 4]⟩,⟨(some (5,true)),[aa 6 0,((some 7),.op (.arith .leq (.tmp 6) (.val (.val (.int .u8 122)))))]⟩,⟨none,[bj 8 5 7,aa 9 8]⟩,⟨(some (9,false)),[aa 10 0,((some 11),.op (.arith .geq (.tmp 10) (.val (.val (.int .u8 65))))),aa 12 11]⟩,⟨(some (12,true)),[aa 13 0,((some 14),.op (.arith .leq (.tmp 13) (.val (.val (.int .u8 90)))))]⟩,⟨(some (9,false)),[bj 15 12 14]⟩,⟨none,[aX 16 9 15,aa 17 16]⟩,⟨(some (17,false)),[aa 18 0,((some 19),.op (.arith .eql (.tmp 18) (.val (.val (.int .u8 95)))))]⟩,⟨none,[aX 20 17 19,aa 2 20]⟩]) <|
  .ret,
  [.tmp 2],21⟩
theorem rp:aK Tryz.prog 192 []=some ly:=by kernel_rfl
def jG:DF:=⟨.seq (ah [aN 2 false]) <|
  .seq (.seq (ah [aa 3 0,((some 4),.op (.fp (.tmp 3))),au 5 .eql 4 3]) <|
  .cond (.tmp 5) (.seq (.region [] [⟨none,[aa 6 0,((some 7),.op (.cF (.tmp 6) (.val (.val (.int .i64 0))))),((some 8),.op (.arith .eql (.tmp 7) (.val (.val (.int .u8 39))))),aa 9 8]⟩,⟨(some (9,true)),[aa 10 0,((some 11),.op (.cF (.tmp 10) (.val (.val (.int .i64 2))))),((some 12),.op (.arith .eql (.tmp 11) (.val (.val (.int .u8 39)))))]⟩,⟨none,[bj 13 9 12,aa 14 13]⟩,⟨(some (14,true)),[aa 15 0,((some 16),.op (.cF (.tmp 15) (.val (.val (.int .i64 1))))),((some 17),.op (.arith .geq (.tmp 16) (.val (.val (.int .u8 32)))))]⟩,⟨none,[bj 18 14 17,aa 19 18]⟩,⟨(some (19,true)),[aa 20 0,((some 21),.op (.cF (.tmp 20) (.val (.val (.int .i64 1))))),((some 22),.op (.arith .leq (.tmp 21) (.val (.val (.int .u8 126)))))]⟩,⟨none,[bj 23 19 22,aa 24 23]⟩,⟨(some (24,true)),[aa 25 0,((some 26),.op (.cF (.tmp 25) (.val (.val (.int .i64 1))))),((some 27),.op (.arith .neq (.tmp 26) (.val (.val (.int .u8 39)))))]⟩,⟨none,[bj 28 24 27,aa 29 28]⟩,⟨(some (29,true)),[aa 30 0,((some 31),.op (.cF (.tmp 30) (.val (.val (.int .i64 1))))),((some 32),.op (.arith .neq (.tmp 31) (.val (.val (.int .u8 92)))))]⟩,⟨none,[bj 33 29 32,aa 2 33]⟩]) <|
  .ret) (.skip)) <|
  .seq (.region [] [⟨none,[aa 34 0,((some 35),.op (.fp (.tmp 34))),au 36 .eql 35 4,aa 37 36]⟩,⟨(some (37,true)),[aa 38 0,((some 39),.op (.cF (.tmp 38) (.val (.val (.int .i64 0))))),((some 40),.op (.arith .eql (.tmp 39) (.val (.val (.int .u8 39)))))]⟩,⟨none,[bj 41 37 40,aa 42 41]⟩,⟨(some (42,true)),[aa 43 0,((some 44),.op (.cF (.tmp 43) (.val (.val (.int .i64 3))))),((some 45),.op (.arith .eql (.tmp 44) (.val (.val (.int .u8 39)))))]⟩,⟨none,[bj 46 42 45,aa 47 46]⟩,⟨(some (47,true)),[aa 48 0,((some 49),.op (.cF (.tmp 48) (.val (.val (.int .i64 1))))),((some 50),.op (.arith .eql (.tmp 49) (.val (.val (.int .u8 92)))))]⟩,⟨none,[bj 51 47 50,aa 52 51]⟩,⟨(some (52,true)),[aa 53 0,((some 54),.op (.cF (.tmp 53) (.val (.val (.int .i64 2))))),((some 55),.op (.arith .eql (.tmp 54) (.val (.val (.int .u8 110))))),aa 56 55]⟩,⟨(some (56,false)),[aa 57 0,((some 58),.op (.cF (.tmp 57) (.val (.val (.int .i64 2))))),((some 59),.op (.arith .eql (.tmp 58) (.val (.val (.int .u8 116)))))]⟩,⟨(some (52,true)),[aX 60 56 59,aa 61 60]⟩,⟨(some (61,false)),[aa 62 0,((some 63),.op (.cF (.tmp 62) (.val (.val (.int .i64 2))))),((some 64),.op (.arith .eql (.tmp 63) (.val (.val (.int .u8 92)))))]⟩,⟨(some (52,true)),[aX 65 61 64,aa 66 65]⟩,⟨(some (66,false)),[aa 67 0,((some 68),.op (.cF (.tmp 67) (.val (.val (.int .i64 2))))),((some 69),.op (.arith .eql (.tmp 68) (.val (.val (.int .u8 39)))))]⟩,⟨(some (52,true)),[aX 70 66 69]⟩,⟨none,[bj 71 52 70,aa 2 71]⟩]) <|
  .ret,
  [.tmp 2],72⟩
theorem pf:aK Tryz.prog 191 []=some jG:=by kernel_rfl
def pR:DC :=
  .seq (.seq (ah [aa 6 4,aa 7 3,aC 8 7,aF 9 .lss 6 8]) <|
  .cond (.tmp 9) (.skip) (.exit 0)) <|
  .seq (.block 1 (.seq (.region [(5,9)] [⟨none,[aa 12 0,aC 13 12,au 14 .lss 13 4,aa 15 14]⟩,⟨(some (15,true)),[aa 16 0,((some 17),.op (.old (.convert 73 9 (.tmp 16)) 9)),aa 18 3,aa 19 4,aG 20 1 18 19,ak 21 20,((some 22),.op (.gD .add (.tmp 17) (.tmp 21))),aI 23 191 [22]]⟩,⟨none,[bj 24 15 23]⟩]) <|
  .cond (.tmp 24) (.seq (ah [aA 2 4]) <|
  .ret) (.skip))) <|
  ah [aa 10 4,au 11 .add 10 1,aa 4 11]
def jL:DF:=⟨.seq (ah [aA 2 0]) <|
  .seq (.region [] [⟨none,[((some 5),.op (.aS 5 1 [(.val (.string ⟨#[]⟩))] [(0,(.val (.val (.string ⟨#[120,39]⟩)))),(1,(.val (.val (.string ⟨#[39]⟩)))),(2,(.val (.val (.string ⟨#[92,110,39]⟩)))),(3,(.val (.val (.string ⟨#[110,39]⟩)))),(4,(.val (.val (.string ⟨#[92,39,39]⟩))))])),aa 3 5]⟩]) <|
  .seq (.seq (ah [aA 4 0]) <|
  .block 0 (.loop pR)) <|
  .seq (ah [aA 2 3]) <|
  .ret,
  [.tmp 2],25⟩
theorem o6:aK Tryz.prog 220 []=some jL:=by kernel_rfl
def jM:DF:=⟨.seq (ah [aA 2 0]) <|
  .seq (.seq (ah [aa 3 0]) <|
  .block 0 (.seq (.region [] [⟨none,[((some 5),.op (.gD .eql (.tmp 3) (.val (.val (.string ⟨#[116,111,107,101,110]⟩))))),aa 4 5]⟩]) <|
  .cond (.tmp 4) (.seq (ah [aA 2 3]) <|
  .ret) (.seq (.region [] [⟨none,[((some 7),.op (.gD .eql (.tmp 3) (.val (.val (.string ⟨#[108,101,102,116]⟩))))),aa 6 7]⟩]) <|
  .cond (.tmp 6) (.seq (ah [aA 2 4]) <|
  .ret) (.seq (.region [] [⟨none,[((some 9),.op (.gD .eql (.tmp 3) (.val (.val (.string ⟨#[114,105,103,104,116]⟩))))),aa 8 9]⟩]) <|
  .cond (.tmp 8) (.seq (ah [aA 2 5]) <|
  .ret) (.seq (.region [] [⟨none,[((some 11),.op (.gD .eql (.tmp 3) (.val (.val (.string ⟨#[110,111,110,97,115,115,111,99]⟩))))),aa 10 11]⟩]) <|
  .cond (.tmp 10) (.seq (ah [aA 2 6]) <|
  .ret) (.seq (.region [] [⟨none,[((some 13),.op (.gD .eql (.tmp 3) (.val (.val (.string ⟨#[115,116,97,114,116]⟩))))),aa 12 13]⟩]) <|
  .cond (.tmp 12) (.seq (ah [aA 2 7]) <|
  .ret) (.seq (.region [] [⟨none,[((some 15),.op (.gD .eql (.tmp 3) (.val (.val (.string ⟨#[112,114,101,99]⟩))))),aa 14 15]⟩]) <|
  .cond (.tmp 14) (.seq (ah [aA 2 8]) <|
  .ret) (.skip)))))))) <|
  .seq (ah [aA 2 0]) <|
  .ret,
  [.tmp 2],16⟩
theorem pb:aK Tryz.prog 221 []=some jM:=by kernel_rfl
def mX:DF:=⟨.seq (ah [aA 2 0]) <|
  .seq (.seq (ah [aa 3 0]) <|
  .block 0 (.seq (ah [((some 5),.op (.arith .eql (.tmp 3) (.val (.val (.int .u8 58))))),aa 4 5]) <|
  .cond (.tmp 4) (.seq (ah [aA 2 10]) <|
  .ret) (.seq (ah [((some 7),.op (.arith .eql (.tmp 3) (.val (.val (.int .u8 124))))),aa 6 7]) <|
  .cond (.tmp 6) (.seq (ah [aA 2 11]) <|
  .ret) (.seq (ah [((some 9),.op (.arith .eql (.tmp 3) (.val (.val (.int .u8 59))))),aa 8 9]) <|
  .cond (.tmp 8) (.seq (ah [aA 2 12]) <|
  .ret) (.skip))))) <|
  .seq (ah [aA 2 0]) <|
  .ret,
  [.tmp 2],10⟩
theorem rX:aK Tryz.prog 222 []=some mX:=by kernel_rfl
def wU:DC :=
  .seq (.seq (.region [] [⟨none,[aa 21 7,bb 22 21,an 23 3 22,ak 24 23,au 25 .eql 24 0,aa 26 25]⟩,⟨(some (26,true)),[aa 27 7,bb 28 27,an 29 0 28,ak 30 29,aC 31 30,au 32 .gtr 31 0]⟩,⟨none,[bj 33 26 32,aa 34 33]⟩,⟨(some (34,true)),[aa 35 7,aI 36 182 [35],au 37 .neq 36 9]⟩,⟨none,[bj 38 34 37]⟩]) <|
  .cond (.tmp 38) (.skip) (.exit 0)) <|
  .block 1 (.region [(1,3)] [⟨none,[an 39 1 8,ak 40 39,aa 41 7,aI 42 181 [41],((some 43),.op (.app 5 88 (.tmp 40) (.tmp 42))),an 44 1 8,(none,.op (.store 1 (.tmp 44) (.tmp 43)))]⟩])
def pA:DF:=⟨.seq (ah [((some 4),.op (.alloc [(.emp 1),(.emp 1)])),((some 5),.op (.aW (.val (.val (.complex .f64 0 0))))),aA 6 0]) <|
  .seq (ah [aa 9 0,aa 10 1,((some 11),.op (.build [(.emp 1),(.val (.complex .f64 0 0)),(.val (.complex .f64 0 0)),(.val (.int .i64 0))] [(0,1,(.tmp 9)),(1,1,(.tmp 10))])),((some 12),.op (.box (.tmp 11))),aa 7 12]) <|
  .seq (ah [aa 13 7,aI 14 179 [13],((some 15),.op (.build [(.emp 1),(.emp 1)] [(0,1,(.tmp 14))])),((some 8),.op (.alloc [(.emp 1),(.emp 1)])),(none,.op (.store 2 (.tmp 8) (.tmp 15)))]) <|
  .seq (ah [aa 16 7,cp 17 180 [(.tmp 16),(.val (.val (.int .i64 9))),(.val (.val (.int .i64 9)))]]) <|
  .seq (ah [aa 18 7,aI 19 181 [18],an 20 1 8,(none,.op (.store 1 (.tmp 20) (.tmp 19)))]) <|
  .seq (.block 0 (.loop wU)) <|
  .seq (.seq (.region [] [⟨none,[aa 45 7,bb 46 45,an 47 3 46,ak 48 47,au 49 .eql 48 0,aa 50 49]⟩,⟨(some (50,true)),[aa 51 7,bb 52 51,an 53 0 52,ak 54 53,aC 55 54,au 56 .gtr 55 0]⟩,⟨none,[bj 57 50 56]⟩]) <|
  .cond (.tmp 57) (ah [aa 58 7,cp 59 180 [(.tmp 58),(.val (.val (.int .i64 9))),(.val (.val (.int .i64 9)))]]) (.skip)) <|
  .seq (.seq (ah [aa 60 7,bb 61 60,an 62 0 61,ak 63 62,aC 64 63,au 65 .gtr 64 0]) <|
  .cond (.tmp 65) (ah [aa 66 7,aI 67 183 [66]]) (.skip)) <|
  .seq (.seq (ah [aa 68 7,bb 69 68,an 70 3 69,ak 71 70,au 72 .neq 71 0]) <|
  .cond (.tmp 72) (.seq (.region [(4,9),(8,9)] [⟨none,[((some 73),.op (.build [(.emp 1),(.emp 1)] [])),aa 74 7,bb 75 74,an 76 2 75,ak 77 76,aa 78 7,bb 79 78,an 80 3 79,ak 81 80,(none,.op (.store 2 (.tmp 4) (.tmp 73))),aa 5 77,aa 6 81]⟩]) <|
  .ret) (.skip)) <|
  .seq (ah [aH 82 2 8,(none,.op (.store 2 (.tmp 4) (.tmp 82))),((some 5),.op (.aW (.val (.val (.complex .f64 0 0))))),aA 6 0]) <|
  .ret,
  [.cell 4 (some 2),.tmp 5,.tmp 6],83⟩
theorem vd:aK Tryz.prog 121 []=some pA:=by kernel_rfl
def gG:DF:=⟨.seq (ah [aA 2 0]) <|
  .seq (.seq (.region [] [⟨none,[aa 3 0,bb 4 3,an 5 3 4,ak 6 5,au 7 .neq 6 0,aa 8 7]⟩,⟨(some (8,false)),[aa 9 0,bb 10 9,an 11 0 10,ak 12 11,aC 13 12,au 14 .eql 13 0]⟩,⟨none,[aX 15 8 14]⟩]) <|
  .cond (.tmp 15) (.seq (ah [aA 2 0]) <|
  .ret) (.skip)) <|
  .seq (ah [aa 16 0,bb 17 16,an 18 0 17,ak 19 18,((some 20),.op (.idx 3 (.tmp 19) (.val (.val (.int .i64 0))))),an 21 0 20,ak 22 21,aa 2 22]) <|
  .ret,
  [.tmp 2],23⟩
theorem l6:aK Tryz.prog 182 []=some gG:=by kernel_rfl
def lI:DC :=
  .seq (.seq (ah [aa 10 0,bb 11 10,an 12 3 11,ak 13 12,au 14 .eql 13 0]) <|
  .cond (.tmp 14) (.skip) (.exit 0)) <|
  .block 1 (.seq (.region [(0,2),(2,4)] [⟨none,[aH 15 2 4,aa 16 0,aI 17 223 [16],((some 18),.op (.build [(.val (.string ⟨#[]⟩)),(.val (.complex .f64 0 0)),(.emp 1),(.val (.string ⟨#[]⟩)),(.val (.complex .f64 0 0))] [(0,2,(.tmp 15)),(2,1,(.tmp 17))])),((some 5),.op (.alloc [(.val (.string ⟨#[]⟩)),(.val (.complex .f64 0 0)),(.emp 1),(.val (.string ⟨#[]⟩)),(.val (.complex .f64 0 0))])),(none,.op (.store 5 (.tmp 5) (.tmp 18)))]⟩]) <|
  .seq (.seq (ah [aa 19 0,cp 20 224 [(.tmp 19),(.val (.val (.int .i64 8))),(.val (.val (.int .i64 8)))]]) <|
  .cond (.tmp 20) (.seq (ah [aa 21 0,cp 22 180 [(.tmp 21),(.val (.val (.int .i64 8))),(.val (.val (.int .i64 8)))]]) <|
  ah [aa 23 0,cp 24 180 [(.tmp 23),(.val (.val (.int .i64 1))),(.val (.val (.int .i64 2)))],an 25 3 5,(none,.op (.store 2 (.tmp 25) (.tmp 24)))]) (.skip)) <|
  .seq (.region [] [⟨none,[aa 26 3,aH 27 5 5,((some 28),.op (.aS 1 5 [(.val (.string ⟨#[]⟩)),(.val (.complex .f64 0 0)),(.emp 1),(.val (.string ⟨#[]⟩)),(.val (.complex .f64 0 0))] [(0,(.tmp 27))])),((some 29),.op (.app 5 88 (.tmp 26) (.tmp 28))),aa 3 29]⟩]) <|
  .seq (.seq (ah [aa 30 0,cp 31 224 [(.tmp 30),(.val (.val (.int .i64 11))),(.val (.val (.int .i64 11)))],bB 32 31]) <|
  .cond (.tmp 32) (.seq (ah [aa 33 0,cp 34 180 [(.tmp 33),(.val (.val (.int .i64 12))),(.val (.val (.int .i64 12)))]]) <|
  .seq (ah [aa 35 3,aa 2 35]) <|
  .ret) (.skip)) <|
  ah [aa 36 0,cp 37 180 [(.tmp 36),(.val (.val (.int .i64 11))),(.val (.val (.int .i64 11)))]])
def gg:DF:=⟨.seq (ah [((some 2),.op (.aW (.val (.emp 1))))]) <|
  .seq (ah [((some 3),.op (.aW (.val (.emp 1))))]) <|
  .seq (.region [] [⟨none,[aa 6 0,cp 7 180 [(.tmp 6),(.val (.val (.int .i64 1))),(.val (.val (.int .i64 1)))],((some 4),.op (.alloc [(.val (.string ⟨#[]⟩)),(.val (.complex .f64 0 0))])),(none,.op (.store 2 (.tmp 4) (.tmp 7)))]⟩]) <|
  .seq (ah [aa 8 0,cp 9 180 [(.tmp 8),(.val (.val (.int .i64 10))),(.val (.val (.int .i64 10)))]]) <|
  .seq (.block 0 (.loop lI)) <|
  .seq (ah [aa 38 3,aa 2 38]) <|
  .ret,
  [.tmp 2],39⟩
theorem kU:aK Tryz.prog 181 []=some gg:=by kernel_rfl
def m0:DC :=
  .seq (.seq (ah [aa 4 0,cp 5 224 [(.tmp 4),(.val (.val (.int .i64 1))),(.val (.val (.int .i64 2)))]]) <|
  .cond (.tmp 5) (.skip) (.exit 0)) <|
  .block 1 (.region [] [⟨none,[aa 6 3,aa 7 0,cp 8 180 [(.tmp 7),(.val (.val (.int .i64 1))),(.val (.val (.int .i64 2)))],((some 9),.op (.aS 1 2 [(.val (.string ⟨#[]⟩)),(.val (.complex .f64 0 0))] [(0,(.tmp 8))])),((some 10),.op (.app 2 32 (.tmp 6) (.tmp 9))),aa 3 10]⟩])
def gK:DF:=⟨.seq (ah [((some 2),.op (.aW (.val (.emp 1))))]) <|
  .seq (ah [((some 3),.op (.aW (.val (.emp 1))))]) <|
  .seq (.block 0 (.loop m0)) <|
  .seq (ah [aa 11 3,aa 2 11]) <|
  .ret,
  [.tmp 2],12⟩
theorem lW:aK Tryz.prog 223 []=some gK:=by kernel_rfl
def iB:DF:=⟨.seq (ah [aN 6 false]) <|
  .seq (.region [] [⟨none,[aa 7 0,bb 8 7,an 9 0 8,ak 10 9,aC 11 10,au 12 .gtr 11 0,aa 13 12]⟩,⟨(some (13,true)),[aa 14 0,aI 15 182 [14],aa 16 1,aF 17 .eql 15 16,aa 18 17]⟩,⟨(some (18,false)),[aa 19 0,aI 20 182 [19],aa 21 2,aF 22 .eql 20 21]⟩,⟨(some (13,true)),[aX 23 18 22]⟩,⟨none,[bj 24 13 23,aa 6 24]⟩]) <|
  .ret,
  [.tmp 6],25⟩
theorem nG:aK Tryz.prog 224 []=some iB:=by kernel_rfl
def gH:DF:=⟨.seq (.region [] [⟨none,[((some 6),.op (.alloc [(.val (.string ⟨#[]⟩)),(.val (.complex .f64 0 0))]))]⟩]) <|
  .seq (.seq (.region [] [⟨none,[aa 8 0,bb 9 8,an 10 3 9,ak 11 10,au 12 .neq 11 0,aa 13 12]⟩,⟨(some (13,false)),[aa 14 0,aa 15 1,aa 16 2,aI 17 224 [14,15,16],bB 18 17]⟩,⟨none,[aX 19 13 18]⟩]) <|
  .cond (.tmp 19) (.seq (ah [aa 20 0,aI 21 183 [20]]) <|
  .seq (.region [] [⟨none,[((some 22),.op (.build [(.val (.string ⟨#[]⟩)),(.val (.complex .f64 0 0))] [])),(none,.op (.store 2 (.tmp 6) (.tmp 22)))]⟩]) <|
  .ret) (.skip)) <|
  .seq (.region [] [⟨none,[aa 23 0,bb 24 23,an 25 0 24,ak 26 25,((some 27),.op (.idx 3 (.tmp 26) (.val (.val (.int .i64 0))))),aH 28 3 27,((some 7),.op (.alloc [(.val (.int .i64 0)),(.val (.string ⟨#[]⟩)),(.val (.complex .f64 0 0))])),(none,.op (.store 3 (.tmp 7) (.tmp 28)))]⟩]) <|
  .seq (ah [aa 29 0,aa 30 0,bb 31 30,an 32 0 31,ak 33 32,((some 34),.op (.slice 3 (.tmp 33) (some (.val (.val (.int .i64 1)))) none)),bb 35 29,an 36 0 35,(none,.op (.store 1 (.tmp 36) (.tmp 34)))]) <|
  .seq (.region [] [⟨none,[an 37 1 7,ak 38 37,an 39 2 7,ak 40 39,((some 41),.op (.build [(.val (.string ⟨#[]⟩)),(.val (.complex .f64 0 0))] [(0,1,(.tmp 38)),(1,1,(.tmp 40))])),(none,.op (.store 2 (.tmp 6) (.tmp 41)))]⟩]) <|
  .ret,
  [.cell 6 (some 2)],42⟩
theorem lP:aK Tryz.prog 180 []=some gH:=by kernel_rfl
def gC:DF:=⟨.seq (.seq (ah [aa 2 0,bb 3 2,an 4 3 3,ak 5 4,au 6 .neq 5 0]) <|
  .cond (.tmp 6) (.ret) (.skip)) <|
  .seq (ah [aa 7 0,aa 8 0,aa 9 0,bb 10 9,an 11 1 10,ak 12 11,bb 13 7,an 14 2 13,(none,.op (.store 1 (.tmp 14) (.tmp 12))),bb 15 8,an 16 3 15,(none,.op (.store 1 (.tmp 16) (.val (.val (.int .i64 4)))))]) <|
  .seq (ah [aa 17 0,bb 18 17,an 19 0 18,ak 20 19,aC 21 20,au 22 .gtr 21 0]) <|
  .cond (.tmp 22) (ah [aa 23 0,aa 24 0,aa 25 0,bb 26 25,an 27 0 26,ak 28 27,((some 29),.op (.idx 3 (.tmp 28) (.val (.val (.int .i64 0))))),an 30 2 29,ak 31 30,bb 32 23,an 33 2 32,(none,.op (.store 1 (.tmp 33) (.tmp 31))),bb 34 24,an 35 3 34,(none,.op (.store 1 (.tmp 35) (.val (.val (.int .i64 3)))))]) (.skip),
  [],36⟩
theorem lT:aK Tryz.prog 183 []=some gC:=by kernel_rfl
def l5:DC :=
  .seq (.seq (.region [] [⟨none,[aa 6 0,bb 7 6,an 8 3 7,ak 9 8,au 10 .eql 9 0,aa 11 10]⟩,⟨(some (11,true)),[aa 12 0,bb 13 12,an 14 0 13,ak 15 14,aC 16 15,au 17 .gtr 16 0]⟩,⟨none,[bj 18 11 17,aa 19 18]⟩,⟨(some (19,true)),[aa 20 0,aI 21 182 [20],au 22 .neq 21 9]⟩,⟨none,[bj 23 19 22]⟩]) <|
  .cond (.tmp 23) (.skip) (.exit 0)) <|
  .block 1 (.seq (ah [aa 24 0,aI 25 182 [24],aa 4 25]) <|
  .seq (.seq (ah [aa 26 4,au 27 .eql 26 7]) <|
  .cond (.tmp 27) (.seq (ah [aa 28 0,aa 29 4,aa 30 4,aI 31 180 [28,29,30]]) <|
  .seq (.region [] [⟨none,[aa 32 3,aa 33 4,aa 34 0,cp 35 180 [(.tmp 34),(.val (.val (.int .i64 1))),(.val (.val (.int .i64 1)))],((some 36),.op (.aS 1 2 [(.val (.string ⟨#[]⟩)),(.val (.complex .f64 0 0))] [(0,(.tmp 35))])),((some 37),.op (.build [(.val (.int .i64 0)),(.emp 1)] [(0,1,(.tmp 33)),(1,1,(.tmp 36))])),((some 38),.op (.aS 1 2 [(.val (.int .i64 0)),(.emp 1)] [(0,(.tmp 37))])),((some 39),.op (.app 2 32 (.tmp 32) (.tmp 38))),aa 3 39]⟩]) <|
  .exit 1) (.skip)) <|
  .seq (.seq (.region [] [⟨none,[aa 40 4,au 41 .neq 40 3,aa 42 41]⟩,⟨(some (42,true)),[aa 43 4,au 44 .neq 43 4]⟩,⟨none,[bj 45 42 44,aa 46 45]⟩,⟨(some (46,true)),[aa 47 4,au 48 .neq 47 5]⟩,⟨none,[bj 49 46 48,aa 50 49]⟩,⟨(some (50,true)),[aa 51 4,au 52 .neq 51 6]⟩,⟨none,[bj 53 50 52]⟩]) <|
  .cond (.tmp 53) (.seq (ah [aa 54 0,aI 55 183 [54]]) <|
  .exit 1) (.skip)) <|
  .seq (ah [aa 56 0,aa 57 4,aa 58 4,aI 59 180 [56,57,58]]) <|
  .seq (.region [] [⟨none,[aa 60 0,cp 61 180 [(.tmp 60),(.val (.val (.int .i64 1))),(.val (.val (.int .i64 2)))],((some 5),.op (.alloc [(.val (.string ⟨#[]⟩)),(.val (.complex .f64 0 0))])),(none,.op (.store 2 (.tmp 5) (.tmp 61)))]⟩]) <|
  .region [(2,5),(3,5)] [⟨none,[aa 62 3,aa 63 4,aH 64 2 5,((some 65),.op (.aS 1 2 [(.val (.string ⟨#[]⟩)),(.val (.complex .f64 0 0))] [(0,(.tmp 64))])),aa 66 0,aI 67 223 [66],((some 68),.op (.app 2 32 (.tmp 65) (.tmp 67))),((some 69),.op (.build [(.val (.int .i64 0)),(.emp 1)] [(0,1,(.tmp 63)),(1,1,(.tmp 68))])),((some 70),.op (.aS 1 2 [(.val (.int .i64 0)),(.emp 1)] [(0,(.tmp 69))])),((some 71),.op (.app 2 32 (.tmp 62) (.tmp 70))),aa 3 71]⟩])
def fZ:DF:=⟨.seq (ah [((some 2),.op (.aW (.val (.emp 1))))]) <|
  .seq (ah [((some 3),.op (.aW (.val (.emp 1))))]) <|
  .seq (.block 0 (.loop l5)) <|
  .seq (ah [aa 72 3,aa 2 72]) <|
  .ret,
  [.tmp 2],73⟩
theorem kT:aK Tryz.prog 179 []=some fZ:=by kernel_rfl
def r5:DC :=
  .seq (.seq (.region [] [⟨none,[aa 17 6,an 18 1 1,ak 19 18,aC 20 19,aF 21 .lss 17 20,aa 22 21]⟩,⟨(some (22,true)),[aa 23 5,bb 24 23,an 25 10 24,ak 26 25,au 27 .eql 26 0]⟩,⟨none,[bj 28 22 27]⟩]) <|
  .cond (.tmp 28) (.skip) (.exit 0)) <|
  .seq (.block 1 (ah [aa 31 5,an 32 1 1,ak 33 32,aa 34 6,aG 35 5 33 34,aH 36 5 35,aI 37 124 [31,36]])) <|
  ah [aa 29 6,au 30 .add 29 1,aa 6 30]
def k7:DF:=⟨.seq (ah [bA 1 0,((some 2),.op (.alloc [(.emp 1),(.emp 1),(.emp 1),(.val (.int .i64 0))])),((some 3),.op (.aW (.val (.val (.complex .f64 0 0))))),aA 4 0]) <|
  .seq (.region [] [⟨none,[((some 7),.op (.build [(.emp 1),(.emp 1),(.emp 1),(.val (.int .i64 0)),(.emp 1),(.val (.string ⟨#[]⟩)),(.val (.complex .f64 0 0)),(.val (.bool false)),(.val (.int .i64 0)),(.val (.complex .f64 0 0)),(.val (.int .i64 0))] [])),((some 8),.op (.box (.tmp 7))),aa 5 8]⟩]) <|
  .seq (ah [aa 9 5,an 10 0 1,ak 11 10,aI 12 122 [9,11]]) <|
  .seq (ah [aa 13 5,an 14 1 1,ak 15 14,aI 16 123 [13,15]]) <|
  .seq (.seq (ah [aA 6 0]) <|
  .block 0 (.loop r5)) <|
  .seq (.seq (.region [] [⟨none,[aa 38 5,bb 39 38,an 40 7 39,ak 41 40,aa 42 41]⟩,⟨(some (42,true)),[aa 43 5,bb 44 43,an 45 0 44,aH 46 4 45,aa 47 5,bb 48 47,an 49 5 48,an 50 0 49,ak 51 50,aI 52 125 [46,51],au 53 .lss 52 0]⟩,⟨none,[bj 54 42 53]⟩]) <|
  .cond (.tmp 54) (ah [aa 55 5,aa 56 5,bb 57 56,an 58 5 57,aH 59 2 58,cp 60 126 [(.tmp 55),(.tmp 59),(.val (.val (.int .i64 8)))]]) (.skip)) <|
  .seq (.seq (ah [an 61 1 1,ak 62 61,aC 63 62,au 64 .eql 63 0]) <|
  .cond (.tmp 64) (.region [] [⟨none,[aa 65 5,((some 66),.op (.build [(.val (.string ⟨#[]⟩)),(.val (.complex .f64 0 0))] [])),cp 67 126 [(.tmp 65),(.tmp 66),(.val (.val (.int .i64 8)))]]⟩]) (.skip)) <|
  .seq (.seq (ah [aa 68 5,bb 69 68,an 70 10 69,ak 71 70,au 72 .neq 71 0]) <|
  .cond (.tmp 72) (.seq (.region [(4,9),(8,9)] [⟨none,[((some 73),.op (.build [(.emp 1),(.emp 1),(.emp 1),(.val (.int .i64 0))] [])),aa 74 5,bb 75 74,an 76 9 75,ak 77 76,aa 78 5,bb 79 78,an 80 10 79,ak 81 80,(none,.op (.store 4 (.tmp 2) (.tmp 73))),aa 3 77,aa 4 81]⟩]) <|
  .ret) (.skip)) <|
  .seq (.seq (ah [aa 82 5,bb 83 82,an 84 7 83,ak 85 84]) <|
  .cond (.tmp 85) (ah [aa 86 5,aa 87 5,bb 88 87,an 89 0 88,aH 90 4 89,aa 91 5,bb 92 91,an 93 5 92,an 94 0 93,ak 95 94,aI 96 125 [90,95],bb 97 86,an 98 0 97,an 99 3 98,(none,.op (.store 1 (.tmp 99) (.tmp 96)))]) (.skip)) <|
  .seq (ah [aa 100 5,bb 101 100,an 102 0 101,aH 103 4 102,(none,.op (.store 4 (.tmp 2) (.tmp 103))),((some 3),.op (.aW (.val (.val (.complex .f64 0 0))))),aA 4 0]) <|
  .ret,
  [.cell 2 (some 4),.tmp 3,.tmp 4],104⟩
theorem qw:aK Tryz.prog 71 [1]=some k7:=by kernel_rfl
def oA:DC :=
  .seq (.seq (.region [] [⟨none,[aa 28 5,an 29 2 3,ak 30 29,aC 31 30,aF 32 .lss 28 31,aa 33 32]⟩,⟨(some (33,true)),[aa 34 0,bb 35 34,an 36 10 35,ak 37 36,au 38 .eql 37 0]⟩,⟨none,[bj 39 33 38]⟩]) <|
  .cond (.tmp 39) (.skip) (.exit 0)) <|
  .seq (.block 1 (.seq (.region [] [⟨none,[an 42 2 3,ak 43 42,aa 44 5,aG 45 2 43 44,aH 46 2 45,((some 6),.op (.alloc [(.val (.string ⟨#[]⟩)),(.val (.complex .f64 0 0))])),(none,.op (.store 2 (.tmp 6) (.tmp 46)))]⟩]) <|
  .seq (.seq (ah [an 47 0 6,ak 48 47,aI 49 139 [48],bB 50 49]) <|
  .cond (.tmp 50) (.seq (ah [aa 51 0,aH 52 2 6,cp 53 126 [(.tmp 51),(.tmp 52),(.val (.val (.int .i64 3)))]]) <|
  .ret) (.skip)) <|
  .seq (.seq (ah [aa 54 5,au 55 .eql 54 6]) <|
  .cond (.tmp 55) (.seq (ah [aa 56 0,aH 57 2 6,cp 58 126 [(.tmp 56),(.tmp 57),(.val (.val (.int .i64 5)))]]) <|
  .ret) (.skip)) <|
  .seq (ah [aa 59 0,aH 60 2 6,cp 61 185 [(.tmp 59),(.tmp 60),(.val (.val (.bool true)))],aa 7 61]) <|
  .seq (ah [an 62 1 4,ak 63 62,aa 64 7,((some 65),.op (.aS 1 1 [(.val (.int .i64 0))] [(0,(.tmp 64))])),((some 66),.op (.app 1 8 (.tmp 63) (.tmp 65))),an 67 1 4,(none,.op (.store 1 (.tmp 67) (.tmp 66)))]) <|
  .seq (ah [aa 68 7,au 69 .geq 68 0]) <|
  .cond (.tmp 69) (ah [aa 70 7,an 71 2 4,(none,.op (.store 1 (.tmp 71) (.tmp 70)))]) (.skip))) <|
  ah [aa 40 5,au 41 .add 40 1,aa 5 41]
def iD:DF:=⟨.seq (ah [bA 3 1]) <|
  .seq (.region [(7,9)] [⟨none,[aa 8 0,bb 9 8,an 10 0 9,aH 11 4 10,an 12 0 3,an 13 0 12,ak 14 13,aI 15 125 [11,14],((some 16),.op (.build [(.val (.int .i64 0)),(.emp 1),(.val (.int .i64 0))] [(0,1,(.tmp 15)),(2,1,(.val (.val (.int .i64 (-1)))))])),((some 4),.op (.alloc [(.val (.int .i64 0)),(.emp 1),(.val (.int .i64 0))])),(none,.op (.store 3 (.tmp 4) (.tmp 16)))]⟩]) <|
  .seq (.seq (ah [aa 17 0,bb 18 17,an 19 0 18,an 20 2 19,ak 21 20,aC 22 21,au 23 .eql 22 40]) <|
  .cond (.tmp 23) (ah [aa 24 0,an 25 0 3,aH 26 2 25,cp 27 126 [(.tmp 24),(.tmp 26),(.val (.val (.int .i64 5)))]]) (.skip)) <|
  .seq (.seq (ah [aA 5 0]) <|
  .block 0 (.loop oA)) <|
  .seq (.seq (.region [] [⟨none,[an 72 3 3,an 73 0 72,ak 74 73,((some 75),.op (.gD .neq (.tmp 74) (.val (.val (.string ⟨#[]⟩))))),aa 76 75]⟩,⟨(some (76,true)),[aa 77 0,bb 78 77,an 79 10 78,ak 80 79,au 81 .eql 80 0]⟩,⟨none,[bj 82 76 81]⟩]) <|
  .cond (.tmp 82) (.seq (.seq (ah [an 83 3 3,an 84 0 83,ak 85 84,aI 86 139 [85],bB 87 86]) <|
  .cond (.tmp 87) (.seq (ah [aa 88 0,an 89 3 3,aH 90 2 89,cp 91 126 [(.tmp 88),(.tmp 90),(.val (.val (.int .i64 3)))]]) <|
  .ret) (.skip)) <|
  ah [aa 92 0,an 93 3 3,aH 94 2 93,cp 95 185 [(.tmp 92),(.tmp 94),(.val (.val (.bool false)))],an 96 2 4,(none,.op (.store 1 (.tmp 96) (.tmp 95)))]) (.skip)) <|
  ah [aa 97 0,aa 98 0,bb 99 98,an 100 0 99,an 101 2 100,ak 102 101,aH 103 3 4,((some 104),.op (.aS 1 3 [(.val (.int .i64 0)),(.emp 1),(.val (.int .i64 0))] [(0,(.tmp 103))])),((some 105),.op (.app 3 40 (.tmp 102) (.tmp 104))),bb 106 97,an 107 0 106,an 108 2 107,(none,.op (.store 1 (.tmp 108) (.tmp 105)))],
  [],109⟩
theorem nI:aK Tryz.prog 124 [3]=some iD:=by kernel_rfl
def lr:DF:=⟨.seq (ah [aN 2 false]) <|
  .seq (.region [] [⟨none,[aa 3 0,aI 4 142 [3],aa 5 4]⟩,⟨(some (5,false)),[aa 6 0,aI 7 191 [6]]⟩,⟨none,[aX 8 5 7,aa 2 8]⟩]) <|
  .ret,
  [.tmp 2],9⟩
theorem rn:aK Tryz.prog 139 []=some lr:=by kernel_rfl
def tt:DC :=
  .seq (.seq (ah [aa 18 3,aa 19 0,((some 20),.op (.fp (.tmp 19))),aF 21 .lss 18 20]) <|
  .cond (.tmp 21) (.skip) (.exit 0)) <|
  .seq (.block 1 (.seq (ah [aa 24 0,aa 25 3,((some 26),.op (.cF (.tmp 24) (.tmp 25))),aI 27 193 [26],bB 28 27]) <|
  .cond (.tmp 28) (.seq (ah [aN 2 false]) <|
  .ret) (.skip))) <|
  ah [aa 22 3,au 23 .add 22 1,aa 3 23]
def mV:DF:=⟨.seq (ah [aN 2 false]) <|
  .seq (.seq (.region [] [⟨none,[aa 4 0,((some 5),.op (.fp (.tmp 4))),au 6 .eql 5 0,aa 7 6]⟩,⟨(some (7,false)),[aa 8 0,((some 9),.op (.fp (.tmp 8))),au 10 .gtr 9 20]⟩,⟨none,[aX 11 7 10,aa 12 11]⟩,⟨(some (12,false)),[aa 13 0,((some 14),.op (.cF (.tmp 13) (.val (.val (.int .i64 0))))),aI 15 192 [14],bB 16 15]⟩,⟨none,[aX 17 12 16]⟩]) <|
  .cond (.tmp 17) (.seq (ah [aN 2 false]) <|
  .ret) (.skip)) <|
  .seq (.seq (ah [aA 3 0]) <|
  .block 0 (.loop tt)) <|
  .seq (ah [aN 2 true]) <|
  .ret,
  [.tmp 2],29⟩
theorem rT:aK Tryz.prog 142 []=some mV:=by kernel_rfl
def iF:DF:=⟨.seq (ah [bA 4 1]) <|
  .seq (ah [aa 6 0,bb 7 6,an 8 10 7,ak 9 8,au 10 .eql 9 0]) <|
  .cond (.tmp 10) (ah [aa 11 0,aa 12 0,an 13 1 4,ak 14 13,aa 15 2,bb 16 11,an 17 9 16,(none,.op (.store 1 (.tmp 17) (.tmp 14))),bb 18 12,an 19 10 18,(none,.op (.store 1 (.tmp 19) (.tmp 15)))]) (.skip),
  [],20⟩
theorem nA:aK Tryz.prog 126 [4]=some iF:=by kernel_rfl
def gI:DF:=⟨.seq (ah [bA 4 1,aA 6 0]) <|
  .seq (ah [aa 8 0,bb 9 8,an 10 0 9,aH 11 4 10,an 12 0 4,ak 13 12,aI 14 125 [11,13],aa 7 14]) <|
  .seq (.block 0 (.seq (.region [] [⟨none,[aa 19 7,au 20 .geq 19 0,aa 21 20]⟩,⟨(some (21,true)),[aa 22 2]⟩,⟨none,[bj 23 21 22,aa 18 23]⟩]) <|
  .cond (.tmp 18) (.seq (ah [aa 24 7,((some 25),.op (.arith .sub (.val (.val (.int .i64 (-1)))) (.tmp 24))),aa 6 25]) <|
  .ret) (.seq (ah [aa 27 7,au 28 .geq 27 0,aa 26 28]) <|
  .cond (.tmp 26) (ah [aa 29 0,aH 30 2 4,cp 31 126 [(.tmp 29),(.tmp 30),(.val (.val (.int .i64 6)))]]) (.seq (.region [] [⟨none,[aa 33 0,bb 34 33,an 35 0 34,aH 36 4 35,an 37 0 4,ak 38 37,aI 39 140 [36,38],au 40 .geq 39 0,aa 41 40]⟩,⟨(some (41,false)),[an 42 0 4,ak 43 42,aI 44 191 [43]]⟩,⟨none,[aX 45 41 44,aa 46 45]⟩,⟨(some (46,false)),[an 47 0 4,ak 48 47,((some 49),.op (.gD .eql (.tmp 48) (.val (.val (.string ⟨#[101,114,114,111,114]⟩)))))]⟩,⟨none,[aX 50 46 49,aa 32 50]⟩]) <|
  .cond (.tmp 32) (.seq (ah [aa 51 0,aH 52 2 4,aI 53 226 [51,52],aa 6 53]) <|
  .ret) (ah [aa 15 0,aH 16 2 4,cp 17 126 [(.tmp 15),(.tmp 16),(.val (.val (.int .i64 6)))]]))))) <|
  .seq (ah [aA 6 0]) <|
  .ret,
  [.tmp 6],54⟩
theorem lV:aK Tryz.prog 185 [4]=some gI:=by kernel_rfl
def vg:DC :=
  .seq (.seq (ah [aa 6 5,an 7 1 2,ak 8 7,aC 9 8,aF 10 .lss 6 9]) <|
  .cond (.tmp 10) (.skip) (.exit 0)) <|
  .seq (.block 1 (.seq (ah [an 13 1 2,ak 14 13,aa 15 5,aG 16 1 14 15,ak 17 16,aa 18 1,((some 19),.op (.gD .eql (.tmp 17) (.tmp 18)))]) <|
  .cond (.tmp 19) (.seq (ah [aa 20 5,aa 4 20]) <|
  .ret) (.skip))) <|
  ah [aa 11 5,au 12 .add 11 1,aa 5 12]
def nX:DF:=⟨.seq (ah [bA 2 0,aA 4 0]) <|
  .seq (.seq (ah [aA 5 0]) <|
  .block 0 (.loop vg)) <|
  .seq (ah [aA 4 (-1)]) <|
  .ret,
  [.tmp 4],21⟩
theorem tj:aK Tryz.prog 125 [2]=some nX:=by kernel_rfl
def ua:DC :=
  .seq (.seq (ah [aa 6 5,an 7 0 2,ak 8 7,aC 9 8,aF 10 .lss 6 9]) <|
  .cond (.tmp 10) (.skip) (.exit 0)) <|
  .seq (.block 1 (.seq (ah [an 13 0 2,ak 14 13,aa 15 5,aG 16 3 14 15,an 17 0 16,ak 18 17,aa 19 1,((some 20),.op (.gD .eql (.tmp 18) (.tmp 19)))]) <|
  .cond (.tmp 20) (.seq (ah [aa 21 5,aa 4 21]) <|
  .ret) (.skip))) <|
  ah [aa 11 5,au 12 .add 11 1,aa 5 12]
def mG:DF:=⟨.seq (ah [bA 2 0,aA 4 0]) <|
  .seq (.seq (ah [aA 5 0]) <|
  .block 0 (.loop ua)) <|
  .seq (ah [aA 4 (-1)]) <|
  .ret,
  [.tmp 4],22⟩
theorem sQ:aK Tryz.prog 140 [2]=some mG:=by kernel_rfl
def fU:DF:=⟨.seq (ah [bA 3 1,aA 4 0]) <|
  .seq (ah [aa 6 0,bb 7 6,an 8 0 7,aH 9 4 8,an 10 0 3,ak 11 10,aI 12 140 [9,11],aa 5 12]) <|
  .seq (.seq (ah [aa 13 5,au 14 .geq 13 0]) <|
  .cond (.tmp 14) (.seq (ah [aa 15 5,aa 4 15]) <|
  .ret) (.skip)) <|
  .seq (.seq (ah [aa 16 0,bb 17 16,an 18 0 17,an 19 0 18,ak 20 19,aC 21 20,au 22 .eql 21 24]) <|
  .cond (.tmp 22) (.seq (ah [aa 23 0,aH 24 2 3,cp 25 126 [(.tmp 23),(.tmp 24),(.val (.val (.int .i64 5)))]]) <|
  .seq (ah [aA 4 0]) <|
  .ret) (.skip)) <|
  .seq (.region [] [⟨none,[aa 26 0,aa 27 0,bb 28 27,an 29 0 28,an 30 0 29,ak 31 30,an 32 0 3,ak 33 32,((some 34),.op (.build [(.val (.string ⟨#[]⟩)),(.val (.int .i64 0)),(.val (.int .i64 0))] [(0,1,(.tmp 33))])),((some 35),.op (.aS 1 3 [(.val (.string ⟨#[]⟩)),(.val (.int .i64 0)),(.val (.int .i64 0))] [(0,(.tmp 34))])),((some 36),.op (.app 3 32 (.tmp 31) (.tmp 35))),bb 37 26,an 38 0 37,an 39 0 38,(none,.op (.store 1 (.tmp 39) (.tmp 36)))]⟩]) <|
  .seq (ah [aa 40 0,bb 41 40,an 42 0 41,an 43 0 42,ak 44 43,aC 45 44,au 46 .sub 45 1,aa 4 46]) <|
  .ret,
  [.tmp 4],47⟩
theorem kF:aK Tryz.prog 226 [3]=some fU:=by kernel_rfl
def nD:DC :=
  .seq (.seq (.region [] [⟨none,[aa 60 7,an 61 1 5,ak 62 61,aC 63 62,aF 64 .lss 60 63,aa 65 64]⟩,⟨(some (65,true)),[aa 66 0,bb 67 66,an 68 10 67,ak 69 68,au 70 .eql 69 0]⟩,⟨none,[bj 71 65 70]⟩]) <|
  .cond (.tmp 71) (.skip) (.exit 2)) <|
  .seq (.block 3 (ah [aa 74 0,an 75 0 5,ak 76 75,an 77 1 5,ak 78 77,aa 79 7,aG 80 2 78 79,aH 81 2 80,aI 82 184 [74,76,81]])) <|
  ah [aa 72 7,au 73 .add 72 1,aa 7 73]
def nE:DC :=
  .seq (.seq (.region [] [⟨none,[aa 8 4,aa 9 1,aC 10 9,aF 11 .lss 8 10,aa 12 11]⟩,⟨(some (12,true)),[aa 13 0,bb 14 13,an 15 10 14,ak 16 15,au 17 .eql 16 0]⟩,⟨none,[bj 18 12 17]⟩]) <|
  .cond (.tmp 18) (.skip) (.exit 0)) <|
  .seq (.block 1 (.seq (ah [aa 21 1,aa 22 4,aG 23 2 21 22,aH 24 2 23,((some 5),.op (.alloc [(.val (.int .i64 0)),(.emp 1)])),(none,.op (.store 2 (.tmp 5) (.tmp 24)))]) <|
  .seq (.seq (.region [] [⟨none,[an 25 0 5,ak 26 25,au 27 .lss 26 3,aa 28 27]⟩,⟨(some (28,false)),[an 29 0 5,ak 30 29,au 31 .gtr 30 7]⟩,⟨none,[aX 32 28 31]⟩]) <|
  .cond (.tmp 32) (.seq (.region [] [⟨none,[((some 33),.op (.build [(.val (.string ⟨#[]⟩)),(.val (.complex .f64 0 0))] [])),((some 6),.op (.alloc [(.val (.string ⟨#[]⟩)),(.val (.complex .f64 0 0))])),(none,.op (.store 2 (.tmp 6) (.tmp 33)))]⟩]) <|
  .seq (.seq (ah [an 34 1 5,ak 35 34,aC 36 35,au 37 .gtr 36 0]) <|
  .cond (.tmp 37) (ah [an 38 1 5,ak 39 38,((some 40),.op (.idx 2 (.tmp 39) (.val (.val (.int .i64 0))))),aH 41 2 40,(none,.op (.store 2 (.tmp 6) (.tmp 41)))]) (.skip)) <|
  .seq (ah [aa 42 0,aH 43 2 6,cp 44 126 [(.tmp 42),(.tmp 43),(.val (.val (.int .i64 3)))]]) <|
  .ret) (.skip)) <|
  .seq (.seq (.region [] [⟨none,[an 45 0 5,ak 46 45,au 47 .neq 46 3,aa 48 47]⟩,⟨(some (48,true)),[an 49 0 5,ak 50 49,au 51 .neq 50 7]⟩,⟨none,[bj 52 48 51]⟩]) <|
  .cond (.tmp 52) (ah [aa 53 0,bb 54 53,an 55 8 54,ak 56 55,au 57 .add 56 1,bb 58 53,an 59 8 58,(none,.op (.store 1 (.tmp 59) (.tmp 57)))]) (.skip)) <|
  .seq (ah [aA 7 0]) <|
  .block 2 (.loop nD))) <|
  ah [aa 19 4,au 20 .add 19 1,aa 4 20]
def gX:DF:=⟨.seq (ah [aA 4 0]) <|
  .block 0 (.loop nE),
  [],83⟩
theorem mB:aK Tryz.prog 122 []=some gX:=by kernel_rfl
def gj:DF:=⟨.seq (ah [bA 5 2]) <|
  .block 0 (.seq (.region [] [⟨none,[an 63 0 5,ak 64 63,aI 65 139 [64],bB 66 65,aa 67 66]⟩,⟨(some (67,false)),[aa 68 1,au 69 .eql 68 7,aa 70 69]⟩,⟨(some (70,true)),[an 71 0 5,ak 72 71,aI 73 142 [72],bB 74 73]⟩,⟨(some (67,false)),[bj 75 70 74]⟩,⟨none,[aX 76 67 75,aa 62 76]⟩]) <|
  .cond (.tmp 62) (ah [aa 77 0,aH 78 2 5,cp 79 126 [(.tmp 77),(.tmp 78),(.val (.val (.int .i64 3)))]]) (.seq (ah [aa 81 1,au 82 .eql 81 7,aa 80 82]) <|
  .cond (.tmp 80) (.seq (.seq (ah [aa 83 0,bb 84 83,an 85 7 84,ak 86 85]) <|
  .cond (.tmp 86) (ah [aa 87 0,aH 88 2 5,cp 89 126 [(.tmp 87),(.tmp 88),(.val (.val (.int .i64 7)))]]) (.skip)) <|
  ah [aa 90 0,aa 91 0,aH 92 2 5,bb 93 90,an 94 5 93,(none,.op (.store 2 (.tmp 94) (.tmp 92))),bb 95 91,an 96 7 95,(none,.op (.store 1 (.tmp 96) (.val (.val (.bool true)))))]) (.seq (ah [aa 98 1,au 99 .eql 98 3,aa 97 99]) <|
  .cond (.tmp 97) (.seq (.seq (ah [aa 100 0,bb 101 100,an 102 4 101,ak 103 102,an 104 0 5,ak 105 104,aI 106 225 [103,105]]) <|
  .cond (.tmp 106) (ah [aa 107 0,aH 108 2 5,cp 109 126 [(.tmp 107),(.tmp 108),(.val (.val (.int .i64 7)))]]) (.skip)) <|
  .seq (.region [] [⟨none,[aa 110 0,aa 111 0,bb 112 111,an 113 4 112,ak 114 113,an 115 0 5,ak 116 115,((some 117),.op (.aS 1 1 [(.val (.string ⟨#[]⟩))] [(0,(.tmp 116))])),((some 118),.op (.app 1 16 (.tmp 114) (.tmp 117))),bb 119 110,an 120 4 119,(none,.op (.store 1 (.tmp 120) (.tmp 118)))]⟩]) <|
  ah [aa 121 0,aH 122 2 5,aI 123 226 [121,122]]) (.seq (ah [aa 7 0,bb 8 7,an 9 0 8,aH 10 4 9,an 11 0 5,ak 12 11,aI 13 140 [10,12],aa 6 13]) <|
  .seq (.seq (.region [] [⟨none,[aa 14 6,au 15 .geq 14 0,aa 16 15]⟩,⟨(some (16,true)),[aa 17 0,bb 18 17,an 19 0 18,an 20 0 19,ak 21 20,aa 22 6,aG 23 3 21 22,an 24 1 23,ak 25 24,au 26 .gtr 25 0]⟩,⟨none,[bj 27 16 26]⟩]) <|
  .cond (.tmp 27) (.seq (ah [aa 28 0,aH 29 2 5,cp 30 126 [(.tmp 28),(.tmp 29),(.val (.val (.int .i64 7)))]]) <|
  .ret) (.skip)) <|
  .seq (ah [aa 31 0,aH 32 2 5,aI 33 226 [31,32],aa 6 33]) <|
  .seq (ah [aa 34 0,bb 35 34,an 36 10 35,ak 37 36,au 38 .eql 37 0]) <|
  .cond (.tmp 38) (ah [aa 39 0,bb 40 39,an 41 0 40,an 42 0 41,ak 43 42,aa 44 6,aa 45 0,bb 46 45,an 47 0 46,an 48 0 47,ak 49 48,aa 50 6,aa 51 0,bb 52 51,an 53 8 52,ak 54 53,aa 55 1,au 56 .sub 55 4,au 57 .add 56 1,aG 58 3 43 44,an 59 1 58,(none,.op (.store 1 (.tmp 59) (.tmp 54))),aG 60 3 49 50,an 61 2 60,(none,.op (.store 1 (.tmp 61) (.tmp 57)))]) (.skip))))),
  [],124⟩
theorem kW:aK Tryz.prog 184 [5]=some gj:=by kernel_rfl
def u9:DC :=
  .seq (.seq (ah [aa 6 5,aa 7 0,aC 8 7,aF 9 .lss 6 8]) <|
  .cond (.tmp 9) (.skip) (.exit 0)) <|
  .seq (.block 1 (.seq (ah [aa 12 0,aa 13 5,aG 14 1 12 13,ak 15 14,aa 16 1,((some 17),.op (.gD .eql (.tmp 15) (.tmp 16)))]) <|
  .cond (.tmp 17) (.seq (ah [aN 4 true]) <|
  .ret) (.skip))) <|
  ah [aa 10 5,au 11 .add 10 1,aa 5 11]
def nT:DF:=⟨.seq (ah [aN 4 false]) <|
  .seq (.seq (ah [aA 5 0]) <|
  .block 0 (.loop u9)) <|
  .seq (ah [aN 4 false]) <|
  .ret,
  [.tmp 4],18⟩
theorem tT:aK Tryz.prog 225 []=some nT:=by kernel_rfl
def nB:DC :=
  .seq (.seq (.region [] [⟨none,[aa 6 4,aa 7 1,aC 8 7,aF 9 .lss 6 8,aa 10 9]⟩,⟨(some (10,true)),[aa 11 0,bb 12 11,an 13 10 12,ak 14 13,au 15 .eql 14 0]⟩,⟨none,[bj 16 10 15]⟩]) <|
  .cond (.tmp 16) (.skip) (.exit 0)) <|
  .seq (.block 1 (.seq (.region [] [⟨none,[aa 19 1,aa 20 4,aG 21 5 19 20,an 22 0 21,aH 23 2 22,((some 5),.op (.alloc [(.val (.string ⟨#[]⟩)),(.val (.complex .f64 0 0))])),(none,.op (.store 2 (.tmp 5) (.tmp 23)))]⟩]) <|
  .block 2 (.seq (ah [an 38 0 5,ak 39 38,aI 40 142 [39],bB 41 40,aa 37 41]) <|
  .cond (.tmp 37) (ah [aa 42 0,aH 43 2 5,cp 44 126 [(.tmp 42),(.tmp 43),(.val (.val (.int .i64 3)))]]) (.seq (ah [aa 46 0,bb 47 46,an 48 0 47,aH 49 4 48,an 50 0 5,ak 51 50,aI 52 140 [49,51],au 53 .geq 52 0,aa 45 53]) <|
  .cond (.tmp 45) (ah [aa 54 0,aH 55 2 5,cp 56 126 [(.tmp 54),(.tmp 55),(.val (.val (.int .i64 7)))]]) (.seq (ah [aa 58 0,bb 59 58,an 60 0 59,aH 61 4 60,an 62 0 5,ak 63 62,aI 64 125 [61,63],au 65 .geq 64 0,aa 57 65]) <|
  .cond (.tmp 57) (.skip) (.seq (ah [aa 67 0,bb 68 67,an 69 0 68,an 70 1 69,ak 71 70,aC 72 71,au 73 .eql 72 16,aa 66 73]) <|
  .cond (.tmp 66) (ah [aa 74 0,aH 75 2 5,cp 76 126 [(.tmp 74),(.tmp 75),(.val (.val (.int .i64 5)))]]) (.region [] [⟨none,[aa 24 0,aa 25 0,bb 26 25,an 27 0 26,an 28 1 27,ak 29 28,an 30 0 5,ak 31 30,((some 32),.op (.aS 1 1 [(.val (.string ⟨#[]⟩))] [(0,(.tmp 31))])),((some 33),.op (.app 1 16 (.tmp 29) (.tmp 32))),bb 34 24,an 35 0 34,an 36 1 35,(none,.op (.store 1 (.tmp 36) (.tmp 33)))]⟩]))))))) <|
  ah [aa 17 4,au 18 .add 17 1,aa 4 18]
def hU:DF:=⟨.seq (ah [aA 4 0]) <|
  .block 0 (.loop nB),
  [],77⟩
theorem mY:aK Tryz.prog 123 []=some hU:=by kernel_rfl
def Am:List (FuncId × DF):=[(41,ni),(70,lq),(120,kj),(176,mL),(215,nZ),(216,mj),(217,m6),(218,kC),(234,kP),(177,o7),(219,po),(178,nQ),(193,lx),(192,ly),(191,jG),(220,jL),(221,jM),(222,mX),(121,pA),(182,gG),(181,gg),(223,gK),(224,iB),(180,gH),(183,gC),(179,fZ),(71,k7),(124,iD),(139,lr),(142,mV),(126,iF),(185,gI),(125,nX),(140,mG),(226,fU),(122,gX),(184,gj),(225,nT),(123,hU)]
theorem Gr:tb Tryz.prog Am:=by
  intro p hp
  simp only[Am,List.mem_cons,List.not_mem_nil,or_false] at hp
  rcases hp with rfl | rfl | rfl | rfl | rfl | rfl | rfl | rfl | rfl | rfl | rfl | rfl | rfl | rfl | rfl | rfl | rfl | rfl | rfl | rfl | rfl | rfl | rfl | rfl | rfl | rfl | rfl | rfl | rfl | rfl | rfl | rfl | rfl | rfl | rfl | rfl | rfl | rfl | rfl
  · exact ⟨_,rO⟩
  · exact ⟨_,qC⟩
  · exact ⟨_,pP⟩
  · exact ⟨_,sN⟩
  · exact ⟨_,tX⟩
  · exact ⟨_,sV⟩
  · exact ⟨_,rr⟩
  · exact ⟨_,pK⟩
  · exact ⟨_,pG⟩
  · exact ⟨_,ve⟩
  · exact ⟨_,uU⟩
  · exact ⟨_,s9⟩
  · exact ⟨_,qK⟩
  · exact ⟨_,rp⟩
  · exact ⟨_,pf⟩
  · exact ⟨_,o6⟩
  · exact ⟨_,pb⟩
  · exact ⟨_,rX⟩
  · exact ⟨_,vd⟩
  · exact ⟨_,l6⟩
  · exact ⟨_,kU⟩
  · exact ⟨_,lW⟩
  · exact ⟨_,nG⟩
  · exact ⟨_,lP⟩
  · exact ⟨_,lT⟩
  · exact ⟨_,kT⟩
  · exact ⟨_,qw⟩
  · exact ⟨_,nI⟩
  · exact ⟨_,rn⟩
  · exact ⟨_,rT⟩
  · exact ⟨_,nA⟩
  · exact ⟨_,lV⟩
  · exact ⟨_,tj⟩
  · exact ⟨_,sQ⟩
  · exact ⟨_,kF⟩
  · exact ⟨_,mB⟩
  · exact ⟨_,kW⟩
  · exact ⟨_,tT⟩
  · exact ⟨_,mY⟩
def tR (l:List Int):V:=.aM (l.map fun x=>[gy x])
theorem Ih (l:List Int):Tree (tR l):=fy _ _ fun x _ v hv=>by simp at hv; subst hv; exact .val _
def jD (g:aw):V:=.bh [.agg (av g),.val (.complex .f64 0 0),gi 0]
theorem zX {l:List Int} {g:aw} (h:sY Tryz.prog Am (fun _ _ _=>none) 41 [tR l]=some (jD g)):b6 Tryz.prog 41 [tR l] (jD g) :=
  kd mixed Gr (Ld _) (by intro v hv; simp at hv; subst hv; exact Ih _) h
abbrev de (κ:Type):=List (κ × V × Nat)
def ep {κ:Type} (key:κ→Value) (m:de κ):List (V × V × Nat):=m.map fun x=>(.val (key x.1),x.2.1,x.2.2)
def getM {κ:Type} [BEq κ] (m:de κ) (k:κ):Option V:=(m.find? fun x=>k == x.1).map (·.2.1)
def cX {κ:Type} [BEq κ] (k:κ) (v:V) (c:Nat):de κ→de κ
  | []=>[(k,v,c)]
  | x :: r=>if k == x.1 then (k,v,x.2.2) :: r else x :: cX k v c r
structure CD {κ:Type} [BEq κ] (P:Program) (kt:TypeId) (key:κ→Value):Prop where
  ty:∃ d,P.underlying kt=some d∧(∀ a b,Instr.sameNow d (key a) (key b)=some (a == b))∧(∀ a e,bm P (Instr.checkKey e 10000 kt (key a))=some ())
  bits:∀ a b,(a == b)=true→Instr.sameBits 10000 (key b) (key a)=true
theorem r9 {κ:Type} (key:κ→Value):∀ m:de κ,fX (ep key m)=some (m.map fun x=>{ key:=key x.1,val:=.nilFunc,born:=x.2.2 })
  | []=>rfl
  | x :: r=>by
    have:=r9 key r
    simp only[ep] at this
    simp[ep,fX,bZ,this]
def iL {κ:Type} [BEq κ] (k:κ):de κ→Option Nat
  | []=>none
  | x :: r=>if k == x.1 then some 0 else (iL k r).map (·+1)
theorem xp {κ:Type} [BEq κ] {key:κ→Value} {d:TypeDesc} (h:∀ a b,Instr.sameNow d (key a) (key b)=some (a == b)) (k:κ):∀ (m:de κ) (i:Nat),
    Instr.findNow d (key k) (m.map fun x=>{ key:=key x.1,val:=.nilFunc,born:=x.2.2 }) i=some ((iL k m).map fun j=>(i+j,.nilFunc))
  | [],i=>rfl
  | x :: r,i=>by
    simp only[List.map_cons,Instr.findNow,h,iL]
    cases hk:k == x.1 with
    | true=>simp
    | false =>
      simp only[xp h k r (i+1),Bool.false_eq_true,if_false,Option.map_map]
      congr 2
      funext j
      simp only[Function.comp]
      congr 1
      omega
theorem Bw {κ:Type} [BEq κ] {P:Program} {kt:TypeId} {key:κ→Value} (h:CD P kt key) (k:κ) (e:Bool) (m:de κ):kO P kt (.val (key k)) e (ep key m)=some (iL k m):=by
  obtain ⟨d,hd,hn,hc⟩:=h.ty
  have hu:bm P (underlying kt)=some d:=di hd
  simp only[kO,bZ,r9,bg,hc,Option.bind_some]
  have:bm P (Instr.findKey kt (key k) (m.map fun x=>{ key:=key x.1,val:=.nilFunc,born:=x.2.2 }))=some ((iL k m).map fun j=>(0+j,.nilFunc)):=by
    unfold Instr.findKey
    rw[bg,hu,Option.bind_some,xp hn]
    rfl
  rw[this]
  cases iL k m with
  | none=>rfl
  | some j=>simp
theorem F6 {P:Program} {kt:TypeId} {d:TypeDesc} (h:P.underlying kt=some d) (hd:match d with | .int _ | .string | .bool=>True | _=>False) (e:Bool) (n:Nat) (v:Value):bm P (Instr.checkKey e (n+1) kt v)=some ():=by
  unfold Instr.checkKey
  rw[bg,di h,Option.bind_some]
  cases d <;> first | exact hd.elim | rfl
theorem Cl {P:Program} {kt:TypeId} (k:IntKind) (h:P.underlying kt=some (.int k)):CD P kt (Value.int k) where
  ty:=⟨_,h,fun a b=>by simp[Instr.sameNow],fun a e=>F6 h trivial e 9999 _⟩
  bits:=fun a b hab=>by
    have:a=b:=by simpa using hab
    subst this
    simp[Instr.sameBits]
theorem xP {κ:Type} [BEq κ] {key:κ→Value} (k:κ):∀ m:de κ,match iL k m with
    | some i=>∃ x,m[i]?=some x∧(k == x.1)=true∧getM m k=some x.2.1∧(ep key m)[i]?=some (.val (key x.1),x.2.1,x.2.2)∧∀ v c,(ep key m).set i (.val (key k),v,x.2.2)=ep key (cX k v c m)∧(cX k v c m).length=m.length
    | none=>getM m k=none∧∀ v c,ep key m ++ [(.val (key k),v,c)]=ep key (cX k v c m)∧(cX k v c m).length=m.length+1
  | []=>⟨rfl,fun v c=>⟨rfl,rfl⟩⟩
  | x :: r=>by
    have ih:=xP (key:=key) k r
    simp only[iL]
    cases hk:k == x.1 with
    | true=>exact ⟨x,rfl,hk,by simp[getM,hk],rfl,fun v c=>by simp[cX,hk,ep]⟩
    | false =>
      simp only[Bool.false_eq_true,if_false]
      cases hi:iL k r with
      | some i =>
        rw[hi] at ih
        obtain ⟨y,h1,h2,h3,h4,h5⟩:=ih
        refine ⟨y,by simpa using h1,h2,by simpa [getM,hk] using h3,by simpa [ep] using h4,fun v c=>?_⟩
        obtain ⟨g1,g2⟩:=h5 v c
        exact ⟨by simp only[ep] at g1 ⊢; simp[cX,hk,g1],by simp[cX,hk,g2]⟩
      | none =>
        rw[hi] at ih
        refine ⟨by simpa [getM,hk] using ih.1,fun v c=>?_⟩
        obtain ⟨g1,g2⟩:=ih.2 v c
        exact ⟨by simp only[ep] at g1 ⊢; simp[cX,hk,g1],by simp[cX,hk,g2]⟩
section
variable {P:Program} {T:Env} {H:View} {κ:Type} [BEq κ] {key:κ→Value} {kt et t ty:TypeId}
theorem Nr {K:V→View→Prop} {w:b9 (T,H,K)} {x i:Operand} {z:V} {id c:Nat} {m:de κ} {k:κ} (hm:eA P t=some (kt,et)) (hz:zeroV P et=some z) (hk:CD P kt key)
    (hx:ev T x=.mp id) (hi:ev T i=.val (key k)) (hH:H id=.map (ep key m) c) (h:K ((getM m k).getD z) H):tz P (.lookup t x i false) ty T H K w:=by
  intro n _
  have hf:=Bw hk k (ep key m).isEmpty m
  have hg:=xP (key:=key) k m
  refine ⟨(getM m k).getD z,.none,[id],?_,h⟩
  simp only[sI,bF,oper,eu,hm,hz,hx,hi,hH,hf]
  cases hj:iL k m with
  | some j =>
    rw[hj] at hg
    obtain ⟨y,h1,h2,h3,h4,_⟩:=hg
    simp[h4,h3]
  | none =>
    rw[hj] at hg
    simp[hg.1]
theorem Ky (hk:CD P kt key) (k k':κ) (h:(k == k')=true):sameKey (.val (key k')) (.val (key k))=true:=by
  simp only[sameKey,bZ]; exact hk.bits _ _ h
theorem HL {K:V→View→Prop} {w:b9 (T,H,K)} {x i y:Operand} {id c:Nat} {m:de κ} {k:κ} {v:V} (hm:eA P t=some (kt,et)) (hk:CD P kt key)
    (hx:ev T x=.mp id) (hi:ev T i=.val (key k)) (hy:ev T y=v) (hH:H id=.map (ep key m) c)
    (h:∀ c',K .any (H.set id (.map (ep key (cX k v c m)) c'))):tz P (.mapUpdate t x i y) ty T H K w:=by
  intro n _
  have hf:=Bw hk k false m
  have hg:=xP (key:=key) k m
  cases hj:iL k m with
  | some j =>
    rw[hj] at hg hf
    obtain ⟨z,h1,h2,h3,h4,h5⟩:=hg
    refine ⟨.any,.eJ id (.map ((ep key m).set j (.val (key k),v,z.2.2)) c),[id],?_,?_⟩
    · simp only[sI,bF,oper,dZ,hm,hx,hi,hy,hH,hf,h4,Ky hk k z.1 h2,if_true]
    · rw[(h5 v c).1]; exact h c
  | none =>
    rw[hj] at hg hf
    refine ⟨.any,.eJ id (.map (ep key m ++ [(.val (key k),v,c)]) (c+1)),[id],?_,?_⟩
    · simp only[sI,bF,oper,dZ,hm,hx,hi,hy,hH,hf]
    · rw[(hg.2 v c).1]; exact h (c+1)
omit [BEq κ] in
theorem MV {K:V→View→Prop} {w:b9 (T,H,K)} {x:Operand} {id c:Nat} {m:de κ} (hm:eA P t=some (kt,et)) (hx:ev T x=.mp id) (hH:H id=.map (ep key m) c) (h:K (ao m.length) H) :
    tz P (.call { callee:=.builtin .len,args:=#[x],argTypes:=#[t] }) ty T H K w:=by
  intro n _
  have hu:∃ a b,P.underlying t=some (.map a b):=by
    unfold eA at hm
    split at hm
    · rename_i a b h1; exact ⟨a,b,h1⟩
    · simp at hm
  obtain ⟨a,b,hu⟩:=hu
  refine ⟨ao m.length,.none,[id],?_,h⟩
  have hl:(ep key m).length=m.length:=by simp[ep]
  simp only[sI,bF,oper,List.size_toArray,List.length_cons,List.length_nil,qv,hx,hH,hl]
  simp[hu]
end
theorem DA {κ:Type} [BEq κ] [LawfulBEq κ] (k k':κ) (v:V) (c:Nat):∀ m:de κ,getM (cX k v c m) k'=if k' == k then some v else getM m k'
  | []=>by
    by_cases h:k'=k
    · subst h; simp[cX,getM]
    · simp[cX,getM,h]
  | x :: r=>by
    have ih:=DA k k' v c r
    simp only[cX]
    by_cases hk:k=x.1
    · by_cases h:k'=k
      · subst h; simp[hk,getM]
      · have:¬ k'=x.1:=fun e=>h (e.trans hk.symm)
        simp[hk,getM,this]
    · simp only[beq_iff_eq,hk,if_false]
      by_cases h:k'=x.1
      · have:¬ k'=k:=fun e=>hk (e.symm.trans h)
        simp[getM,h]
        subst h
        simp[this]
      · simp only[getM,List.find?_cons,beq_eq_false_iff_ne.2 h] at ih ⊢
        exact ih
def dp {κ β:Type} [BEq κ] (a:List (κ × β)) (k:κ):Option β:=(a.find? fun x=>k == x.1).map (·.2)
def iK {κ β:Type} [BEq κ] (k:κ) (v:β):List (κ × β)→List (κ × β)
  | []=>[(k,v)]
  | x :: r=>if k == x.1 then (k,v) :: r else x :: iK k v r
def lO {κ β:Type} (encV:β→V):List (κ × β)→de κ→Prop
  | [],[]=>True
  | x :: a,y :: m=>y.1=x.1∧y.2.1=encV x.2∧lO encV a m
  | _,_=>False
theorem lO.get {κ β:Type} [BEq κ] {encV:β→V} (k:κ):∀ {a:List (κ × β)} {m:de κ},lO encV a m→getM m k=(dp a k).map encV
  | [],[],_=>rfl
  | x :: a,y :: m,⟨h1,h2,h3⟩=>by
    have ih:=lO.get k h3
    simp only[getM,dp,List.find?_cons,h1] at ih ⊢
    cases k == x.1 with
    | true=>simp[h2]
    | false=>simpa using ih
theorem lO.put {κ β:Type} [BEq κ] {encV:β→V} (k:κ) (v:β) (c:Nat):∀ {a:List (κ × β)} {m:de κ},lO encV a m→lO encV (iK k v a) (cX k (encV v) c m)
  | [],[],_=>⟨rfl,rfl,trivial⟩
  | x :: a,y :: m,⟨h1,h2,h3⟩=>by
    have ih:=lO.put k v c h3
    simp only[iK,cX,h1]
    cases k == x.1 with
    | true=>exact ⟨rfl,rfl,h3⟩
    | false=>exact ⟨h1,h2,ih⟩
theorem lO.len {κ β:Type} {encV:β→V} : ∀ {a:List (κ × β)} {m:de κ},lO encV a m→m.length=a.length
  | [],[],_=>rfl
  | x :: a,y :: m,⟨_,_,h3⟩=>by simp[lO.len h3]
theorem Ck {κ β:Type} [BEq κ] [LawfulBEq κ] (k k':κ) (v:β):∀ a:List (κ × β),dp (iK k v a) k'=if k' == k then some v else dp a k'
  | []=>by
    by_cases h:k'=k
    · subst h; simp[iK,dp]
    · simp[iK,dp,h]
  | x :: r=>by
    have ih:=Ck k k' v r
    simp only[iK]
    by_cases hk:k=x.1
    · by_cases h:k'=k
      · subst h; simp[hk,dp]
      · have:¬ k'=x.1:=fun e=>h (e.trans hk.symm)
        simp[hk,dp,this]
    · simp only[beq_iff_eq,hk,if_false]
      by_cases h:k'=x.1
      · have:¬ k'=k:=fun e=>hk (e.symm.trans h)
        simp[dp,h]
        subst h
        simp[this]
      · simp only[dp,List.find?_cons,beq_eq_false_iff_ne.2 h] at ih ⊢
        exact ih
def Jq (n k:Nat) (J:Nat→Env→View→Prop) (T:Env) (H:View):Prop:=∃ i,i+k=n∧J i T H
theorem bC.up {P:Program} {T:Env} {H:View} {c:SC} {Q:Exit→Env→View→Prop} {v:b9 (T,H,Q)} (n:Nat) (J:Nat→Env→View→Prop) (h0:J 0 T H)
    (hs:∀ i k T H,i+k=n→J i T H→wS P c T H fun e T' H'=>xC e (∃ k',k' < k∧Jq n k' J T' H') (Q e T' H')):bC P c T H Q v :=
  bC.intro (fun k T H=>Jq n k J T H) n ⟨0,by omega,h0⟩ fun k T H ⟨i,hk,hj⟩=>hs i k T H hk hj
theorem bM {n i k:Nat} {J:Nat→Env→View→Prop} {T:Env} {H:View} (hk:i+k=n) (hlt:i < n) (hJ:J (i+1) T H):∃ k',k' < k∧Jq n k' J T H:=⟨k - 1,by omega,i+1,by omega,hJ⟩
end Gv
