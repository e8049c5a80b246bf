/-
  Part 8 of the proof: what the machine does and what the functions answer.
  Conditions: those that each lemma names.
-/
import Derived.Test.YtkkdjpnkhhlnpaaGreatSGzZG
set_option linter.unusedSimpArgs false
set_option linter.unusedVariables false
set_option maxRecDepth 100000
namespace Gv
open Go Go.Proofs
def D_gerundref09_Read:DF:=⟨.seq (ag [((some 2),.op (.alloc [(.emp 1),(.emp 1),(.emp 1),(.val (.int .i64 0))])),((some 3),.op (.mov (.val (.val (.complex .f64 0 0))))),ai 4 0]) <|
  .seq (ag [aa 9 0,ao 10 98 [9],aa 8 10,aA 11 0 8,aA 12 1 8,aA 13 2 8,((some 5),.op (.alloc [(.emp 1),(.emp 1)])),(none,.op (.store 2 (.tmp 5) (.tmp 11))),aa 6 12,aa 7 13]) <|
  .seq (.seq (ag [aa 14 7,ah 15 .neq 14 0]) <|
  .cond (.tmp 15) (.seq (ag [((some 16),.op (.build [(.emp 1),(.emp 1),(.emp 1),(.val (.int .i64 0))] [])),aa 17 6,aa 18 7,(none,.op (.store 4 (.tmp 2) (.tmp 16))),aa 3 17,aa 4 18]) <|
  .ret) (.skip)) <|
  .seq (ag [au 19 2 5,ao 20 99 [19],aA 21 0 20,aA 22 1 20,aA 23 2 20,(none,.op (.store 4 (.tmp 2) (.tmp 21))),aa 3 22,aa 4 23]) <|
  .ret,
  [.cell 2 (some 4),.tmp 3,.tmp 4],24⟩
theorem D_gerundref09_Read_ok:compDF Tryz.prog 52 []=some D_gerundref09_Read:=by kernel_rfl
def D_gerundref08_Parse:DF:=⟨.seq (ag [((some 2),.op (.alloc [(.emp 1),(.emp 1)])),((some 3),.op (.mov (.val (.val (.complex .f64 0 0))))),ai 4 0]) <|
  .seq (ag [aa 9 0,ao 10 140 [9],aa 8 10,aA 11 0 8,aA 12 1 8,aA 13 2 8,aa 5 11,aa 6 12,aa 7 13]) <|
  .seq (.seq (ag [aa 14 7,ah 15 .neq 14 0]) <|
  .cond (.tmp 15) (.seq (ag [((some 16),.op (.build [(.emp 1),(.emp 1)] [])),aa 17 6,aa 18 7,(none,.op (.store 2 (.tmp 2) (.tmp 16))),aa 3 17,aa 4 18]) <|
  .ret) (.skip)) <|
  .seq (ag [aa 19 5,aa 20 6,ao 21 141 [19,20],aA 22 0 21,aA 23 1 21,aA 24 2 21,(none,.op (.store 2 (.tmp 2) (.tmp 22))),aa 3 23,aa 4 24]) <|
  .ret,
  [.cell 2 (some 2),.tmp 3,.tmp 4],25⟩
theorem D_gerundref08_Parse_ok:compDF Tryz.prog 98 []=some D_gerundref08_Parse:=by kernel_rfl
def E_gerundref07_Tokens_0:DC :=
  .seq (.seq (.region [] [⟨none,[aa 16 6,aa 17 0,aj 18 17,ak 19 .lss 16 18,aa 20 19]⟩,⟨(some (20,true)),[aa 21 7,ah 22 .lss 21 2]⟩,⟨none,[az 23 20 22]⟩]) <|
  .cond (.tmp 23) (.skip) (.exit 0)) <|
  .block 1 (.seq (ag [aa 25 0,aa 26 6,ao 27 198 [25,26],aa 24 27,aA 28 0 24,aA 29 1 24,aa 8 28,aa 9 29]) <|
  .seq (.seq (ag [aa 30 8,ah 31 .lss 30 0]) <|
  .cond (.tmp 31) (.seq (ag [aa 32 0,aa 33 6,ao 34 199 [32,33],((some 2),.op (.mov (.val (.emp 1)))),aa 3 34,ai 4 4]) <|
  .ret) (.skip)) <|
  .seq (.seq (ag [aa 35 9]) <|
  .cond (.tmp 35) (.seq (ag [aa 36 8,aa 6 36]) <|
  .exit 1) (.skip)) <|
  .seq (.region [] [⟨none,[aa 38 0,aa 39 6,ao 40 200 [38,39],aa 37 40,aA 41 0 37,aA 42 1 37,aA 43 2 37,((some 10),.op (.alloc [(.val (.int .i64 0)),(.val (.string ⟨#[]⟩)),(.val (.complex .f64 0 0))])),(none,.op (.store 3 (.tmp 10) (.tmp 41))),aa 11 42,aa 12 43]⟩]) <|
  .seq (.seq (ag [aa 44 12,ah 45 .neq 44 0]) <|
  .cond (.tmp 45) (.seq (ag [af 46 2 10,ae 47 46,aa 48 12,((some 2),.op (.mov (.val (.emp 1)))),aa 3 47,aa 4 48]) <|
  .ret) (.skip)) <|
  .seq (.seq (ag [af 49 0 10,ae 50 49,ah 51 .eql 50 9]) <|
  .cond (.tmp 51) (ag [aa 52 7,ah 53 .add 52 1,aa 7 53]) (.skip)) <|
  .region [] [⟨none,[aa 54 5,au 55 3 10,((some 56),.op (.bslice 1 3 [(.val (.int .i64 0)),(.val (.string ⟨#[]⟩)),(.val (.complex .f64 0 0))] [(0,(.tmp 55))])),((some 57),.op (.app 3 40 (.tmp 54) (.tmp 56))),aa 58 11,aa 5 57,aa 6 58]⟩])
def D_gerundref07_Tokens:DF:=⟨.seq (ag [((some 2),.op (.mov (.val (.emp 1)))),((some 3),.op (.mov (.val (.val (.complex .f64 0 0))))),ai 4 0]) <|
  .seq (.seq (ag [aa 13 0,aj 14 13,ah 15 .gtr 14 4000]) <|
  .cond (.tmp 15) (.seq (ag [((some 2),.op (.mov (.val (.emp 1)))),((some 3),.op (.mov (.val (.val (.complex .f64 0 0))))),ai 4 5]) <|
  .ret) (.skip)) <|
  .seq (ag [((some 5),.op (.mov (.val (.emp 1))))]) <|
  .seq (ag [ai 6 0,ai 7 0]) <|
  .seq (.block 0 (.loop E_gerundref07_Tokens_0)) <|
  .seq (ag [aa 59 5,aa 60 0,aa 61 0,aj 62 61,ao 63 199 [60,62],aa 2 59,aa 3 63,ai 4 0]) <|
  .ret,
  [.tmp 2,.tmp 3,.tmp 4],64⟩
theorem D_gerundref07_Tokens_ok:compDF Tryz.prog 140 []=some D_gerundref07_Tokens:=by kernel_rfl
def D_gerundref07_skip:DF:=⟨.seq (ag [ai 4 0,aw 5 false]) <|
  .seq (.block 0 (.seq (.region [] [⟨none,[aa 7 0,aa 8 1,av 9 1 7 8,ae 10 9,((some 11),.op (.arith .eql (.tmp 10) (.val (.val (.int .u8 32))))),aa 12 11]⟩,⟨(some (12,false)),[aa 13 0,aa 14 1,av 15 1 13 14,ae 16 15,((some 17),.op (.arith .eql (.tmp 16) (.val (.val (.int .u8 9)))))]⟩,⟨none,[ay 18 12 17,aa 19 18]⟩,⟨(some (19,false)),[aa 20 0,aa 21 1,av 22 1 20 21,ae 23 22,((some 24),.op (.arith .eql (.tmp 23) (.val (.val (.int .u8 10)))))]⟩,⟨none,[ay 25 19 24,aa 26 25]⟩,⟨(some (26,false)),[aa 27 0,aa 28 1,av 29 1 27 28,ae 30 29,((some 31),.op (.arith .eql (.tmp 30) (.val (.val (.int .u8 13)))))]⟩,⟨none,[ay 32 26 31,aa 6 32]⟩]) <|
  .cond (.tmp 6) (.seq (ag [aa 33 1,ah 34 .add 33 1,aa 4 34,aw 5 true]) <|
  .ret) (.seq (.region [] [⟨none,[aa 36 0,aa 37 1,aD 38 239 [(.tmp 36),(.tmp 37),(.val (.val (.string ⟨#[47,42]⟩)))],aa 35 38]⟩]) <|
  .cond (.tmp 35) (.seq (.region [] [⟨none,[aa 39 0,aa 40 1,ah 41 .add 40 2,aD 42 240 [(.tmp 39),(.tmp 41),(.val (.val (.string ⟨#[42,47]⟩)))],aa 4 42,aw 5 true]⟩]) <|
  .ret) (.seq (.region [] [⟨none,[aa 44 0,aa 45 1,aD 46 239 [(.tmp 44),(.tmp 45),(.val (.val (.string ⟨#[47,47]⟩)))],aa 43 46]⟩]) <|
  .cond (.tmp 43) (.seq (ag [aa 47 0,aa 48 1,ao 49 241 [47,48],aa 4 49,aw 5 true]) <|
  .ret) (.seq (.region [] [⟨none,[aa 51 0,aa 52 1,aD 53 239 [(.tmp 51),(.tmp 52),(.val (.val (.string ⟨#[37,123]⟩)))],aa 50 53]⟩]) <|
  .cond (.tmp 50) (.seq (.region [] [⟨none,[aa 54 0,aa 55 1,ah 56 .add 55 2,aD 57 240 [(.tmp 54),(.tmp 56),(.val (.val (.string ⟨#[37,125]⟩)))],aa 4 57,aw 5 true]⟩]) <|
  .ret) (.seq (ag [aa 59 0,aa 60 1,av 61 1 59 60,ae 62 61,((some 63),.op (.arith .eql (.tmp 62) (.val (.val (.int .u8 60))))),aa 58 63]) <|
  .cond (.tmp 58) (.seq (.region [] [⟨none,[aa 64 0,aa 65 0,aa 66 1,ao 67 241 [65,66],((some 68),.op (.slice 1 (.tmp 64) none (some (.tmp 67)))),aa 69 1,ah 70 .add 69 1,aD 71 240 [(.tmp 68),(.tmp 70),(.val (.val (.string ⟨#[62]⟩)))],aa 4 71,aw 5 true]⟩]) <|
  .ret) (.seq (ag [aa 73 0,aa 74 1,av 75 1 73 74,ae 76 75,((some 77),.op (.arith .eql (.tmp 76) (.val (.val (.int .u8 123))))),aa 72 77]) <|
  .cond (.tmp 72) (.seq (ag [aa 78 0,aa 79 1,ao 80 242 [78,79],aa 4 80,aw 5 true]) <|
  .ret) (.skip)))))))) <|
  .seq (ag [aa 81 1,aa 4 81,aw 5 false]) <|
  .ret,
  [.tmp 4,.tmp 5],82⟩
theorem D_gerundref07_skip_ok:compDF Tryz.prog 198 []=some D_gerundref07_skip:=by kernel_rfl
def D_gerundref07_has:DF:=⟨.seq (ag [aw 6 false]) <|
  .seq (.region [] [⟨none,[aa 7 1,aa 8 2,((some 9),.op (.lenS (.tmp 8))),ak 10 .add 7 9,aa 11 0,aj 12 11,ak 13 .leq 10 12,aa 14 13]⟩,⟨(some (14,true)),[aa 15 0,aa 16 1,aa 17 1,aa 18 2,((some 19),.op (.lenS (.tmp 18))),ak 20 .add 17 19,((some 21),.op (.slice 1 (.tmp 15) (some (.tmp 16)) (some (.tmp 20)))),((some 22),.op (.old (.convert 96 9 (.tmp 21)) 9)),aa 23 2,((some 24),.op (.sop .eql (.tmp 22) (.tmp 23)))]⟩,⟨none,[az 25 14 24,aa 6 25]⟩]) <|
  .ret,
  [.tmp 6],26⟩
theorem D_gerundref07_has_ok:compDF Tryz.prog 239 []=some D_gerundref07_has:=by kernel_rfl
def E_gerundref07_past_0:DC :=
  .seq (.seq (ag [aa 7 1,aa 8 0,aj 9 8,ak 10 .lss 7 9]) <|
  .cond (.tmp 10) (.skip) (.exit 0)) <|
  .block 1 (.seq (.seq (ag [aa 11 0,aa 12 1,aa 13 2,ao 14 239 [11,12,13]]) <|
  .cond (.tmp 14) (.seq (ag [aa 15 1,aa 16 2,((some 17),.op (.lenS (.tmp 16))),ak 18 .add 15 17,aa 6 18]) <|
  .ret) (.skip)) <|
  ag [aa 19 1,ah 20 .add 19 1,aa 1 20])
def D_gerundref07_past:DF:=⟨.seq (ag [ai 6 0]) <|
  .seq (.block 0 (.loop E_gerundref07_past_0)) <|
  .seq (ag [ai 6 (-1)]) <|
  .ret,
  [.tmp 6],21⟩
theorem D_gerundref07_past_ok:compDF Tryz.prog 240 []=some D_gerundref07_past:=by kernel_rfl
def E_gerundref07_line_0:DC :=
  .seq (.seq (.region [] [⟨none,[aa 5 1,aa 6 0,aj 7 6,ak 8 .lss 5 7,aa 9 8]⟩,⟨(some (9,true)),[aa 10 0,aa 11 1,av 12 1 10 11,ae 13 12,((some 14),.op (.arith .neq (.tmp 13) (.val (.val (.int .u8 10)))))]⟩,⟨none,[az 15 9 14]⟩]) <|
  .cond (.tmp 15) (.skip) (.exit 0)) <|
  .block 1 (ag [aa 16 1,ah 17 .add 16 1,aa 1 17])
def D_gerundref07_line:DF:=⟨.seq (ag [ai 4 0]) <|
  .seq (.block 0 (.loop E_gerundref07_line_0)) <|
  .seq (ag [aa 18 1,aa 4 18]) <|
  .ret,
  [.tmp 4],19⟩
theorem D_gerundref07_line_ok:compDF Tryz.prog 241 []=some D_gerundref07_line:=by kernel_rfl
def E_gerundref07_action_0:DC :=
  .seq (.seq (.region [] [⟨none,[aa 6 1,ah 7 .geq 6 0,aa 8 7]⟩,⟨(some (8,true)),[aa 9 1,aa 10 0,aj 11 10,ak 12 .lss 9 11]⟩,⟨none,[az 13 8 12]⟩]) <|
  .cond (.tmp 13) (.skip) (.exit 0)) <|
  .block 1 (.seq (.seq (ag [aa 14 0,aa 15 1,av 16 1 14 15,ae 17 16]) <|
  .block 2 (.seq (ag [((some 21),.op (.arith .eql (.tmp 17) (.val (.val (.int .u8 123))))),aa 20 21]) <|
  .cond (.tmp 20) (.seq (ag [aa 22 5,ah 23 .add 22 1,aa 5 23]) <|
  ag [aa 24 1,ah 25 .add 24 1,aa 1 25]) (.seq (ag [((some 27),.op (.arith .eql (.tmp 17) (.val (.val (.int .u8 125))))),aa 26 27]) <|
  .cond (.tmp 26) (.seq (ag [aa 28 5,ah 29 .sub 28 1,aa 5 29]) <|
  ag [aa 30 1,ah 31 .add 30 1,aa 1 31]) (.seq (.seq (ag [((some 33),.op (.arith .eql (.tmp 17) (.val (.val (.int .u8 39))))),aa 32 33]) <|
  .cond (.tmp 32) (.skip) (ag [((some 34),.op (.arith .eql (.tmp 17) (.val (.val (.int .u8 34))))),aa 32 34])) <|
  .cond (.tmp 32) (ag [aa 35 0,aa 36 1,ao 37 260 [35,36],aa 1 37]) (ag [aa 18 1,ah 19 .add 18 1,aa 1 19]))))) <|
  .seq (.region [] [⟨none,[aa 38 5,ah 39 .eql 38 0,aa 40 39]⟩,⟨(some (40,true)),[aa 41 1,ah 42 .geq 41 0]⟩,⟨none,[az 43 40 42]⟩]) <|
  .cond (.tmp 43) (.seq (ag [aa 44 1,aa 4 44]) <|
  .ret) (.skip))
def D_gerundref07_action:DF:=⟨.seq (ag [ai 4 0]) <|
  .seq (ag [ai 5 0]) <|
  .seq (.block 0 (.loop E_gerundref07_action_0)) <|
  .seq (ag [ai 4 (-1)]) <|
  .ret,
  [.tmp 4],45⟩
theorem D_gerundref07_action_ok:compDF Tryz.prog 242 []=some D_gerundref07_action:=by kernel_rfl
def E_gerundref07_quoted_0:DC :=
  .seq (.seq (ag [aa 12 1,aa 13 0,aj 14 13,ak 15 .lss 12 14]) <|
  .cond (.tmp 15) (.skip) (.exit 0)) <|
  .block 1 (.seq (.seq (ag [aa 16 0,aa 17 1,av 18 1 16 17,ae 19 18,aa 20 5,ak 21 .eql 19 20]) <|
  .cond (.tmp 21) (.seq (ag [aa 22 1,ah 23 .add 22 1,aa 4 23]) <|
  .ret) (.skip)) <|
  .seq (.seq (ag [aa 24 0,aa 25 1,av 26 1 24 25,ae 27 26,((some 28),.op (.arith .eql (.tmp 27) (.val (.val (.int .u8 92)))))]) <|
  .cond (.tmp 28) (ag [aa 29 1,ah 30 .add 29 1,aa 1 30]) (.skip)) <|
  ag [aa 31 1,ah 32 .add 31 1,aa 1 32])
def D_gerundref07_quoted:DF:=⟨.seq (ag [ai 4 0]) <|
  .seq (ag [aa 6 0,aa 7 1,av 8 1 6 7,ae 9 8,aa 5 9]) <|
  .seq (ag [aa 10 1,ah 11 .add 10 1,aa 1 11]) <|
  .seq (.block 0 (.loop E_gerundref07_quoted_0)) <|
  .seq (ag [ai 4 (-1)]) <|
  .ret,
  [.tmp 4],33⟩
theorem D_gerundref07_quoted_ok:compDF Tryz.prog 260 []=some D_gerundref07_quoted:=by kernel_rfl
def E_gerundref06_At_0:DC :=
  .seq (.seq (ag [aa 16 7,aa 17 1,ak 18 .lss 16 17]) <|
  .cond (.tmp 18) (.skip) (.exit 0)) <|
  .seq (.block 1 (.seq (ag [aa 21 6,ah 22 .add 21 1,aa 6 22]) <|
  .seq (ag [aa 23 0,aa 24 7,av 25 1 23 24,ae 26 25,((some 27),.op (.arith .eql (.tmp 26) (.val (.val (.int .u8 10)))))]) <|
  .cond (.tmp 27) (ag [aa 28 5,ah 29 .add 28 1,aa 5 29,ai 6 1]) (.skip))) <|
  ag [aa 19 7,ah 20 .add 19 1,aa 7 20]
def D_gerundref06_At:DF:=⟨.seq (ag [((some 4),.op (.mov (.val (.val (.complex .f64 0 0)))))]) <|
  .seq (.seq (.region [] [⟨none,[aa 8 1,ah 9 .lss 8 0,aa 10 9]⟩,⟨(some (10,false)),[aa 11 1,aa 12 0,aj 13 12,ak 14 .gtr 11 13]⟩,⟨none,[ay 15 10 14]⟩]) <|
  .cond (.tmp 15) (.seq (ag [((some 4),.op (.mov (.val (.val (.complex .f64 0 0)))))]) <|
  .ret) (.skip)) <|
  .seq (ag [ai 5 1,ai 6 1]) <|
  .seq (.seq (ag [ai 7 0]) <|
  .block 0 (.loop E_gerundref06_At_0)) <|
  .seq (ag [aa 30 5,aa 31 6,ao 32 243 [30,31],aa 4 32]) <|
  .ret,
  [.tmp 4],33⟩
theorem D_gerundref06_At_ok:compDF Tryz.prog 199 []=some D_gerundref06_At:=by kernel_rfl
def D_gerundref06_Of:DF:=⟨.seq (ag [((some 4),.op (.mov (.val (.val (.complex .f64 0 0)))))]) <|
  .seq (.seq (.region [] [⟨none,[aa 5 0,ah 6 .lss 5 1,aa 7 6]⟩,⟨(some (7,false)),[aa 8 0,ah 9 .gtr 8 1073741824]⟩,⟨none,[ay 10 7 9,aa 11 10]⟩,⟨(some (11,false)),[aa 12 1,ah 13 .lss 12 1]⟩,⟨none,[ay 14 11 13,aa 15 14]⟩,⟨(some (15,false)),[aa 16 1,ah 17 .gtr 16 1073741824]⟩,⟨none,[ay 18 15 17]⟩]) <|
  .cond (.tmp 18) (.seq (ag [((some 4),.op (.mov (.val (.val (.complex .f64 0 0)))))]) <|
  .ret) (.skip)) <|
  .seq (ag [aa 19 0,((some 20),.op (.old (.convert 3 309 (.tmp 19)) 309)),aa 21 1,((some 22),.op (.old (.convert 3 309 (.tmp 21)) 309)),((some 23),.op (.old (.call { callee:=.builtin .complex,args:=#[(.tmp 20),(.tmp 22)],argTypes:=#[309,309] }) 93)),aa 4 23]) <|
  .ret,
  [.tmp 4],24⟩
theorem D_gerundref06_Of_ok:compDF Tryz.prog 243 []=some D_gerundref06_Of:=by kernel_rfl
def E_gerundref07_one_0:DC :=
  .seq (.seq (.region [] [⟨none,[aa 27 9,aa 28 0,aj 29 28,ak 30 .lss 27 29,aa 31 30]⟩,⟨(some (31,true)),[aa 32 0,aa 33 9,av 34 1 32 33,ae 35 34,ao 36 219 [35]]⟩,⟨none,[az 37 31 36]⟩]) <|
  .cond (.tmp 37) (.skip) (.exit 1)) <|
  .block 2 (ag [aa 38 9,ah 39 .add 38 1,aa 9 39])
def E_gerundref07_one_1:DC :=
  .seq (.seq (ag [aa 58 10,ah 59 .leq 58 4]) <|
  .cond (.tmp 59) (.skip) (.exit 3)) <|
  .seq (.block 4 (.seq (.region [] [⟨none,[aa 62 1,aa 63 10,ak 64 .add 62 63,aa 65 0,aj 66 65,ak 67 .leq 64 66,aa 68 67]⟩,⟨(some (68,true)),[aa 69 0,aa 70 1,aa 71 1,aa 72 10,ak 73 .add 71 72,((some 74),.op (.slice 1 (.tmp 69) (some (.tmp 70)) (some (.tmp 73)))),((some 75),.op (.old (.convert 96 9 (.tmp 74)) 9)),ao 76 217 [75]]⟩,⟨none,[az 77 68 76]⟩]) <|
  .cond (.tmp 77) (.seq (.region [(6,8)] [⟨none,[aa 78 0,aa 79 1,aa 80 1,aa 81 10,ak 82 .add 80 81,((some 83),.op (.slice 1 (.tmp 78) (some (.tmp 79)) (some (.tmp 82)))),((some 84),.op (.old (.convert 96 9 (.tmp 83)) 9)),af 85 0 7,(none,.op (.store 1 (.tmp 85) (.val (.val (.int .i64 2))))),af 86 1 7,(none,.op (.store 1 (.tmp 86) (.tmp 84)))]⟩]) <|
  .seq (ag [au 87 3 7,aa 88 1,aa 89 10,ak 90 .add 88 89,(none,.op (.store 3 (.tmp 4) (.tmp 87))),aa 5 90,ai 6 0]) <|
  .ret) (.skip))) <|
  ag [aa 60 10,ah 61 .add 60 1,aa 10 61]
def E_gerundref07_one_2:DC :=
  .seq (.seq (.region [] [⟨none,[aa 108 9,aa 109 0,aj 110 109,ak 111 .lss 108 110,aa 112 111]⟩,⟨(some (112,true)),[aa 113 0,aa 114 9,av 115 1 113 114,ae 116 115,((some 117),.op (.arith .geq (.tmp 116) (.val (.val (.int .u8 97)))))]⟩,⟨none,[az 118 112 117,aa 119 118]⟩,⟨(some (119,true)),[aa 120 0,aa 121 9,av 122 1 120 121,ae 123 122,((some 124),.op (.arith .leq (.tmp 123) (.val (.val (.int .u8 122)))))]⟩,⟨none,[az 125 119 124]⟩]) <|
  .cond (.tmp 125) (.skip) (.exit 5)) <|
  .block 6 (ag [aa 126 9,ah 127 .add 126 1,aa 9 127])
def D_gerundref07_one:DF:=⟨.seq (.region [] [⟨none,[((some 4),.op (.alloc [(.val (.int .i64 0)),(.val (.string ⟨#[]⟩)),(.val (.complex .f64 0 0))])),ai 5 0,ai 6 0]⟩]) <|
  .seq (.region [] [⟨none,[aa 11 0,aa 12 1,ao 13 199 [11,12],((some 14),.op (.build [(.val (.int .i64 0)),(.val (.string ⟨#[]⟩)),(.val (.complex .f64 0 0))] [(2,1,(.tmp 13))])),((some 7),.op (.alloc [(.val (.int .i64 0)),(.val (.string ⟨#[]⟩)),(.val (.complex .f64 0 0))])),(none,.op (.store 3 (.tmp 7) (.tmp 14)))]⟩]) <|
  .seq (ag [aa 15 0,aa 16 1,av 17 1 15 16,ae 18 17,aa 8 18]) <|
  .seq (ag [aa 19 1,ah 20 .add 19 1,aa 9 20]) <|
  .seq (.block 0 (.seq (ag [aa 25 8,ao 26 218 [25],aa 24 26]) <|
  .cond (.tmp 24) (.seq (.block 1 (.loop E_gerundref07_one_0)) <|
  .seq (.seq (ag [aa 40 9,aa 41 1,ak 42 .sub 40 41,ah 43 .gtr 42 20]) <|
  .cond (.tmp 43) (.seq (ag [au 44 3 7,aa 45 9,(none,.op (.store 3 (.tmp 4) (.tmp 44))),aa 5 45,ai 6 5]) <|
  .ret) (.skip)) <|
  .seq (.region [(4,6)] [⟨none,[aa 46 0,aa 47 1,aa 48 9,((some 49),.op (.slice 1 (.tmp 46) (some (.tmp 47)) (some (.tmp 48)))),((some 50),.op (.old (.convert 96 9 (.tmp 49)) 9)),af 51 0 7,(none,.op (.store 1 (.tmp 51) (.val (.val (.int .i64 1))))),af 52 1 7,(none,.op (.store 1 (.tmp 52) (.tmp 50)))]⟩]) <|
  .seq (ag [au 53 3 7,aa 54 9,(none,.op (.store 3 (.tmp 4) (.tmp 53))),aa 5 54,ai 6 0]) <|
  .ret) (.seq (ag [aa 56 8,((some 57),.op (.arith .eql (.tmp 56) (.val (.val (.int .u8 39))))),aa 55 57]) <|
  .cond (.tmp 55) (.seq (.seq (ag [ai 10 3]) <|
  .block 3 (.loop E_gerundref07_one_1)) <|
  .seq (.region [(0,5)] [⟨none,[au 91 3 7,aa 92 9,aa 93 0,aa 94 1,((some 95),.op (.slice 1 (.tmp 93) (some (.tmp 94)) none)),ao 96 244 [95],(none,.op (.store 3 (.tmp 4) (.tmp 91))),aa 5 92,aa 6 96]⟩]) <|
  .ret) (.seq (.region [] [⟨none,[aa 98 0,aa 99 1,aD 100 239 [(.tmp 98),(.tmp 99),(.val (.val (.string ⟨#[37,37]⟩)))],aa 97 100]⟩]) <|
  .cond (.tmp 97) (.seq (ag [af 101 0 7,(none,.op (.store 1 (.tmp 101) (.val (.val (.int .i64 9)))))]) <|
  .seq (ag [au 102 3 7,aa 103 1,ah 104 .add 103 2,(none,.op (.store 3 (.tmp 4) (.tmp 102))),aa 5 104,ai 6 0]) <|
  .ret) (.seq (ag [aa 106 8,((some 107),.op (.arith .eql (.tmp 106) (.val (.val (.int .u8 37))))),aa 105 107]) <|
  .cond (.tmp 105) (.seq (.block 5 (.loop E_gerundref07_one_2)) <|
  ag [aa 128 0,aa 129 1,ah 130 .add 129 1,aa 131 9,((some 132),.op (.slice 1 (.tmp 128) (some (.tmp 130)) (some (.tmp 131)))),((some 133),.op (.old (.convert 96 9 (.tmp 132)) 9)),ao 134 245 [133],af 135 0 7,(none,.op (.store 1 (.tmp 135) (.tmp 134)))]) (ag [aa 21 8,ao 22 246 [21],af 23 0 7,(none,.op (.store 1 (.tmp 23) (.tmp 22)))])))))) <|
  .seq (.seq (ag [af 136 0 7,ae 137 136,ah 138 .eql 137 0]) <|
  .cond (.tmp 138) (.seq (ag [au 139 3 7,aa 140 9,(none,.op (.store 3 (.tmp 4) (.tmp 139))),aa 5 140,ai 6 3]) <|
  .ret) (.skip)) <|
  .seq (ag [au 141 3 7,aa 142 9,(none,.op (.store 3 (.tmp 4) (.tmp 141))),aa 5 142,ai 6 0]) <|
  .ret,
  [.cell 4 (some 3),.tmp 5,.tmp 6],143⟩
theorem D_gerundref07_one_ok:compDF Tryz.prog 200 []=some D_gerundref07_one:=by kernel_rfl
def D_gerundref07_later:DF:=⟨.seq (ag [aw 2 false]) <|
  .seq (.region [] [⟨none,[aa 3 0,ao 4 218 [3],aa 5 4]⟩,⟨(some (5,false)),[aa 6 0,((some 7),.op (.arith .geq (.tmp 6) (.val (.val (.int .u8 48))))),aa 8 7]⟩,⟨(some (8,true)),[aa 9 0,((some 10),.op (.arith .leq (.tmp 9) (.val (.val (.int .u8 57)))))]⟩,⟨(some (5,false)),[az 11 8 10]⟩,⟨none,[ay 12 5 11,aa 13 12]⟩,⟨(some (13,false)),[aa 14 0,((some 15),.op (.arith .eql (.tmp 14) (.val (.val (.int .u8 46)))))]⟩,⟨none,[ay 16 13 15,aa 2 16]⟩]) <|
  .ret,
  [.tmp 2],17⟩
theorem D_gerundref07_later_ok:compDF Tryz.prog 219 []=some D_gerundref07_later:=by kernel_rfl
def D_gerundref07_first:DF:=⟨.seq (ag [aw 2 false]) <|
  .seq (.region [] [⟨none,[aa 3 0,((some 4),.op (.arith .geq (.tmp 3) (.val (.val (.int .u8 97))))),aa 5 4]⟩,⟨(some (5,true)),[aa 6 0,((some 7),.op (.arith .leq (.tmp 6) (.val (.val (.int .u8 122)))))]⟩,⟨none,[az 8 5 7,aa 9 8]⟩,⟨(some (9,false)),[aa 10 0,((some 11),.op (.arith .geq (.tmp 10) (.val (.val (.int .u8 65))))),aa 12 11]⟩,⟨(some (12,true)),[aa 13 0,((some 14),.op (.arith .leq (.tmp 13) (.val (.val (.int .u8 90)))))]⟩,⟨(some (9,false)),[az 15 12 14]⟩,⟨none,[ay 16 9 15,aa 17 16]⟩,⟨(some (17,false)),[aa 18 0,((some 19),.op (.arith .eql (.tmp 18) (.val (.val (.int .u8 95)))))]⟩,⟨none,[ay 20 17 19,aa 2 20]⟩]) <|
  .ret,
  [.tmp 2],21⟩
theorem D_gerundref07_first_ok:compDF Tryz.prog 218 []=some D_gerundref07_first:=by kernel_rfl
def D_gerundref07_Literal:DF:=⟨.seq (ag [aw 2 false]) <|
  .seq (.seq (ag [aa 3 0,((some 4),.op (.lenS (.tmp 3))),ah 5 .eql 4 3]) <|
  .cond (.tmp 5) (.seq (.region [] [⟨none,[aa 6 0,((some 7),.op (.sidx (.tmp 6) (.val (.val (.int .i64 0))))),((some 8),.op (.arith .eql (.tmp 7) (.val (.val (.int .u8 39))))),aa 9 8]⟩,⟨(some (9,true)),[aa 10 0,((some 11),.op (.sidx (.tmp 10) (.val (.val (.int .i64 2))))),((some 12),.op (.arith .eql (.tmp 11) (.val (.val (.int .u8 39)))))]⟩,⟨none,[az 13 9 12,aa 14 13]⟩,⟨(some (14,true)),[aa 15 0,((some 16),.op (.sidx (.tmp 15) (.val (.val (.int .i64 1))))),((some 17),.op (.arith .geq (.tmp 16) (.val (.val (.int .u8 32)))))]⟩,⟨none,[az 18 14 17,aa 19 18]⟩,⟨(some (19,true)),[aa 20 0,((some 21),.op (.sidx (.tmp 20) (.val (.val (.int .i64 1))))),((some 22),.op (.arith .leq (.tmp 21) (.val (.val (.int .u8 126)))))]⟩,⟨none,[az 23 19 22,aa 24 23]⟩,⟨(some (24,true)),[aa 25 0,((some 26),.op (.sidx (.tmp 25) (.val (.val (.int .i64 1))))),((some 27),.op (.arith .neq (.tmp 26) (.val (.val (.int .u8 39)))))]⟩,⟨none,[az 28 24 27,aa 29 28]⟩,⟨(some (29,true)),[aa 30 0,((some 31),.op (.sidx (.tmp 30) (.val (.val (.int .i64 1))))),((some 32),.op (.arith .neq (.tmp 31) (.val (.val (.int .u8 92)))))]⟩,⟨none,[az 33 29 32,aa 2 33]⟩]) <|
  .ret) (.skip)) <|
  .seq (.region [] [⟨none,[aa 34 0,((some 35),.op (.lenS (.tmp 34))),ah 36 .eql 35 4,aa 37 36]⟩,⟨(some (37,true)),[aa 38 0,((some 39),.op (.sidx (.tmp 38) (.val (.val (.int .i64 0))))),((some 40),.op (.arith .eql (.tmp 39) (.val (.val (.int .u8 39)))))]⟩,⟨none,[az 41 37 40,aa 42 41]⟩,⟨(some (42,true)),[aa 43 0,((some 44),.op (.sidx (.tmp 43) (.val (.val (.int .i64 3))))),((some 45),.op (.arith .eql (.tmp 44) (.val (.val (.int .u8 39)))))]⟩,⟨none,[az 46 42 45,aa 47 46]⟩,⟨(some (47,true)),[aa 48 0,((some 49),.op (.sidx (.tmp 48) (.val (.val (.int .i64 1))))),((some 50),.op (.arith .eql (.tmp 49) (.val (.val (.int .u8 92)))))]⟩,⟨none,[az 51 47 50,aa 52 51]⟩,⟨(some (52,true)),[aa 53 0,((some 54),.op (.sidx (.tmp 53) (.val (.val (.int .i64 2))))),((some 55),.op (.arith .eql (.tmp 54) (.val (.val (.int .u8 110))))),aa 56 55]⟩,⟨(some (56,false)),[aa 57 0,((some 58),.op (.sidx (.tmp 57) (.val (.val (.int .i64 2))))),((some 59),.op (.arith .eql (.tmp 58) (.val (.val (.int .u8 116)))))]⟩,⟨(some (52,true)),[ay 60 56 59,aa 61 60]⟩,⟨(some (61,false)),[aa 62 0,((some 63),.op (.sidx (.tmp 62) (.val (.val (.int .i64 2))))),((some 64),.op (.arith .eql (.tmp 63) (.val (.val (.int .u8 92)))))]⟩,⟨(some (52,true)),[ay 65 61 64,aa 66 65]⟩,⟨(some (66,false)),[aa 67 0,((some 68),.op (.sidx (.tmp 67) (.val (.val (.int .i64 2))))),((some 69),.op (.arith .eql (.tmp 68) (.val (.val (.int .u8 39)))))]⟩,⟨(some (52,true)),[ay 70 66 69]⟩,⟨none,[az 71 52 70,aa 2 71]⟩]) <|
  .ret,
  [.tmp 2],72⟩
theorem D_gerundref07_Literal_ok:compDF Tryz.prog 217 []=some D_gerundref07_Literal:=by kernel_rfl
def E_gerundref07_unended_0:DC :=
  .seq (.seq (ag [aa 6 4,aa 7 3,aj 8 7,ak 9 .lss 6 8]) <|
  .cond (.tmp 9) (.skip) (.exit 0)) <|
  .seq (.block 1 (.seq (.region [(5,9)] [⟨none,[aa 12 0,aj 13 12,ah 14 .lss 13 4,aa 15 14]⟩,⟨(some (15,true)),[aa 16 0,((some 17),.op (.old (.convert 96 9 (.tmp 16)) 9)),aa 18 3,aa 19 4,av 20 1 18 19,ae 21 20,((some 22),.op (.sop .add (.tmp 17) (.tmp 21))),ao 23 217 [22]]⟩,⟨none,[az 24 15 23]⟩]) <|
  .cond (.tmp 24) (.seq (ag [ai 2 4]) <|
  .ret) (.skip))) <|
  ag [aa 10 4,ah 11 .add 10 1,aa 4 11]
def D_gerundref07_unended:DF:=⟨.seq (ag [ai 2 0]) <|
  .seq (.region [] [⟨none,[((some 5),.op (.bslice 5 1 [(.val (.string ⟨#[]⟩))] [(0,(.val (.val (.string ⟨#[120,39]⟩)))),(1,(.val (.val (.string ⟨#[39]⟩)))),(2,(.val (.val (.string ⟨#[92,110,39]⟩)))),(3,(.val (.val (.string ⟨#[110,39]⟩)))),(4,(.val (.val (.string ⟨#[92,39,39]⟩))))])),aa 3 5]⟩]) <|
  .seq (.seq (ag [ai 4 0]) <|
  .block 0 (.loop E_gerundref07_unended_0)) <|
  .seq (ag [ai 2 3]) <|
  .ret,
  [.tmp 2],25⟩
theorem D_gerundref07_unended_ok:compDF Tryz.prog 244 []=some D_gerundref07_unended:=by kernel_rfl
def D_gerundref07_percent:DF:=⟨.seq (ag [ai 2 0]) <|
  .seq (.seq (ag [aa 3 0]) <|
  .block 0 (.seq (.region [] [⟨none,[((some 5),.op (.sop .eql (.tmp 3) (.val (.val (.string ⟨#[116,111,107,101,110]⟩))))),aa 4 5]⟩]) <|
  .cond (.tmp 4) (.seq (ag [ai 2 3]) <|
  .ret) (.seq (.region [] [⟨none,[((some 7),.op (.sop .eql (.tmp 3) (.val (.val (.string ⟨#[108,101,102,116]⟩))))),aa 6 7]⟩]) <|
  .cond (.tmp 6) (.seq (ag [ai 2 4]) <|
  .ret) (.seq (.region [] [⟨none,[((some 9),.op (.sop .eql (.tmp 3) (.val (.val (.string ⟨#[114,105,103,104,116]⟩))))),aa 8 9]⟩]) <|
  .cond (.tmp 8) (.seq (ag [ai 2 5]) <|
  .ret) (.seq (.region [] [⟨none,[((some 11),.op (.sop .eql (.tmp 3) (.val (.val (.string ⟨#[110,111,110,97,115,115,111,99]⟩))))),aa 10 11]⟩]) <|
  .cond (.tmp 10) (.seq (ag [ai 2 6]) <|
  .ret) (.seq (.region [] [⟨none,[((some 13),.op (.sop .eql (.tmp 3) (.val (.val (.string ⟨#[115,116,97,114,116]⟩))))),aa 12 13]⟩]) <|
  .cond (.tmp 12) (.seq (ag [ai 2 7]) <|
  .ret) (.seq (.region [] [⟨none,[((some 15),.op (.sop .eql (.tmp 3) (.val (.val (.string ⟨#[112,114,101,99]⟩))))),aa 14 15]⟩]) <|
  .cond (.tmp 14) (.seq (ag [ai 2 8]) <|
  .ret) (.skip)))))))) <|
  .seq (ag [ai 2 0]) <|
  .ret,
  [.tmp 2],16⟩
theorem D_gerundref07_percent_ok:compDF Tryz.prog 245 []=some D_gerundref07_percent:=by kernel_rfl
def D_gerundref07_mark:DF:=⟨.seq (ag [ai 2 0]) <|
  .seq (.seq (ag [aa 3 0]) <|
  .block 0 (.seq (ag [((some 5),.op (.arith .eql (.tmp 3) (.val (.val (.int .u8 58))))),aa 4 5]) <|
  .cond (.tmp 4) (.seq (ag [ai 2 10]) <|
  .ret) (.seq (ag [((some 7),.op (.arith .eql (.tmp 3) (.val (.val (.int .u8 124))))),aa 6 7]) <|
  .cond (.tmp 6) (.seq (ag [ai 2 11]) <|
  .ret) (.seq (ag [((some 9),.op (.arith .eql (.tmp 3) (.val (.val (.int .u8 59))))),aa 8 9]) <|
  .cond (.tmp 8) (.seq (ag [ai 2 12]) <|
  .ret) (.skip))))) <|
  .seq (ag [ai 2 0]) <|
  .ret,
  [.tmp 2],10⟩
theorem D_gerundref07_mark_ok:compDF Tryz.prog 246 []=some D_gerundref07_mark:=by kernel_rfl
def E_gerundref08_Of_0:DC :=
  .seq (.seq (.region [] [⟨none,[aa 21 7,ax 22 21,af 23 3 22,ae 24 23,ah 25 .eql 24 0,aa 26 25]⟩,⟨(some (26,true)),[aa 27 7,ax 28 27,af 29 0 28,ae 30 29,aj 31 30,ah 32 .gtr 31 0]⟩,⟨none,[az 33 26 32,aa 34 33]⟩,⟨(some (34,true)),[aa 35 7,ao 36 204 [35],ah 37 .neq 36 9]⟩,⟨none,[az 38 34 37]⟩]) <|
  .cond (.tmp 38) (.skip) (.exit 0)) <|
  .block 1 (.region [(1,3)] [⟨none,[af 39 1 8,ae 40 39,aa 41 7,ao 42 203 [41],((some 43),.op (.app 5 88 (.tmp 40) (.tmp 42))),af 44 1 8,(none,.op (.store 1 (.tmp 44) (.tmp 43)))]⟩])
def D_gerundref08_Of:DF:=⟨.seq (ag [((some 4),.op (.alloc [(.emp 1),(.emp 1)])),((some 5),.op (.mov (.val (.val (.complex .f64 0 0))))),ai 6 0]) <|
  .seq (ag [aa 9 0,aa 10 1,((some 11),.op (.build [(.emp 1),(.val (.complex .f64 0 0)),(.val (.complex .f64 0 0)),(.val (.int .i64 0))] [(0,1,(.tmp 9)),(1,1,(.tmp 10))])),((some 12),.op (.box (.tmp 11))),aa 7 12]) <|
  .seq (ag [aa 13 7,ao 14 201 [13],((some 15),.op (.build [(.emp 1),(.emp 1)] [(0,1,(.tmp 14))])),((some 8),.op (.alloc [(.emp 1),(.emp 1)])),(none,.op (.store 2 (.tmp 8) (.tmp 15)))]) <|
  .seq (ag [aa 16 7,aD 17 202 [(.tmp 16),(.val (.val (.int .i64 9))),(.val (.val (.int .i64 9)))]]) <|
  .seq (ag [aa 18 7,ao 19 203 [18],af 20 1 8,(none,.op (.store 1 (.tmp 20) (.tmp 19)))]) <|
  .seq (.block 0 (.loop E_gerundref08_Of_0)) <|
  .seq (.seq (.region [] [⟨none,[aa 45 7,ax 46 45,af 47 3 46,ae 48 47,ah 49 .eql 48 0,aa 50 49]⟩,⟨(some (50,true)),[aa 51 7,ax 52 51,af 53 0 52,ae 54 53,aj 55 54,ah 56 .gtr 55 0]⟩,⟨none,[az 57 50 56]⟩]) <|
  .cond (.tmp 57) (ag [aa 58 7,aD 59 202 [(.tmp 58),(.val (.val (.int .i64 9))),(.val (.val (.int .i64 9)))]]) (.skip)) <|
  .seq (.seq (ag [aa 60 7,ax 61 60,af 62 0 61,ae 63 62,aj 64 63,ah 65 .gtr 64 0]) <|
  .cond (.tmp 65) (ag [aa 66 7,ao 67 205 [66]]) (.skip)) <|
  .seq (.seq (ag [aa 68 7,ax 69 68,af 70 3 69,ae 71 70,ah 72 .neq 71 0]) <|
  .cond (.tmp 72) (.seq (.region [(4,9),(8,9)] [⟨none,[((some 73),.op (.build [(.emp 1),(.emp 1)] [])),aa 74 7,ax 75 74,af 76 2 75,ae 77 76,aa 78 7,ax 79 78,af 80 3 79,ae 81 80,(none,.op (.store 2 (.tmp 4) (.tmp 73))),aa 5 77,aa 6 81]⟩]) <|
  .ret) (.skip)) <|
  .seq (ag [au 82 2 8,(none,.op (.store 2 (.tmp 4) (.tmp 82))),((some 5),.op (.mov (.val (.val (.complex .f64 0 0))))),ai 6 0]) <|
  .ret,
  [.cell 4 (some 2),.tmp 5,.tmp 6],83⟩
theorem D_gerundref08_Of_ok:compDF Tryz.prog 141 []=some D_gerundref08_Of:=by kernel_rfl
def D_gerundref08_reader_kind:DF:=⟨.seq (ag [ai 2 0]) <|
  .seq (.seq (.region [] [⟨none,[aa 3 0,ax 4 3,af 5 3 4,ae 6 5,ah 7 .neq 6 0,aa 8 7]⟩,⟨(some (8,false)),[aa 9 0,ax 10 9,af 11 0 10,ae 12 11,aj 13 12,ah 14 .eql 13 0]⟩,⟨none,[ay 15 8 14]⟩]) <|
  .cond (.tmp 15) (.seq (ag [ai 2 0]) <|
  .ret) (.skip)) <|
  .seq (ag [aa 16 0,ax 17 16,af 18 0 17,ae 19 18,((some 20),.op (.idx 3 (.tmp 19) (.val (.val (.int .i64 0))))),af 21 0 20,ae 22 21,aa 2 22]) <|
  .ret,
  [.tmp 2],23⟩
theorem D_gerundref08_reader_kind_ok:compDF Tryz.prog 204 []=some D_gerundref08_reader_kind:=by kernel_rfl
def E_gerundref08_reader_group_0:DC :=
  .seq (.seq (ag [aa 10 0,ax 11 10,af 12 3 11,ae 13 12,ah 14 .eql 13 0]) <|
  .cond (.tmp 14) (.skip) (.exit 0)) <|
  .block 1 (.seq (.region [(0,2),(2,4)] [⟨none,[au 15 2 4,aa 16 0,ao 17 247 [16],((some 18),.op (.build [(.val (.string ⟨#[]⟩)),(.val (.complex .f64 0 0)),(.emp 1),(.val (.string ⟨#[]⟩)),(.val (.complex .f64 0 0))] [(0,2,(.tmp 15)),(2,1,(.tmp 17))])),((some 5),.op (.alloc [(.val (.string ⟨#[]⟩)),(.val (.complex .f64 0 0)),(.emp 1),(.val (.string ⟨#[]⟩)),(.val (.complex .f64 0 0))])),(none,.op (.store 5 (.tmp 5) (.tmp 18)))]⟩]) <|
  .seq (.seq (ag [aa 19 0,aD 20 248 [(.tmp 19),(.val (.val (.int .i64 8))),(.val (.val (.int .i64 8)))]]) <|
  .cond (.tmp 20) (.seq (ag [aa 21 0,aD 22 202 [(.tmp 21),(.val (.val (.int .i64 8))),(.val (.val (.int .i64 8)))]]) <|
  ag [aa 23 0,aD 24 202 [(.tmp 23),(.val (.val (.int .i64 1))),(.val (.val (.int .i64 2)))],af 25 3 5,(none,.op (.store 2 (.tmp 25) (.tmp 24)))]) (.skip)) <|
  .seq (.region [] [⟨none,[aa 26 3,au 27 5 5,((some 28),.op (.bslice 1 5 [(.val (.string ⟨#[]⟩)),(.val (.complex .f64 0 0)),(.emp 1),(.val (.string ⟨#[]⟩)),(.val (.complex .f64 0 0))] [(0,(.tmp 27))])),((some 29),.op (.app 5 88 (.tmp 26) (.tmp 28))),aa 3 29]⟩]) <|
  .seq (.seq (ag [aa 30 0,aD 31 248 [(.tmp 30),(.val (.val (.int .i64 11))),(.val (.val (.int .i64 11)))],aB 32 31]) <|
  .cond (.tmp 32) (.seq (ag [aa 33 0,aD 34 202 [(.tmp 33),(.val (.val (.int .i64 12))),(.val (.val (.int .i64 12)))]]) <|
  .seq (ag [aa 35 3,aa 2 35]) <|
  .ret) (.skip)) <|
  ag [aa 36 0,aD 37 202 [(.tmp 36),(.val (.val (.int .i64 11))),(.val (.val (.int .i64 11)))]])
def D_gerundref08_reader_group:DF:=⟨.seq (ag [((some 2),.op (.mov (.val (.emp 1))))]) <|
  .seq (ag [((some 3),.op (.mov (.val (.emp 1))))]) <|
  .seq (.region [] [⟨none,[aa 6 0,aD 7 202 [(.tmp 6),(.val (.val (.int .i64 1))),(.val (.val (.int .i64 1)))],((some 4),.op (.alloc [(.val (.string ⟨#[]⟩)),(.val (.complex .f64 0 0))])),(none,.op (.store 2 (.tmp 4) (.tmp 7)))]⟩]) <|
  .seq (ag [aa 8 0,aD 9 202 [(.tmp 8),(.val (.val (.int .i64 10))),(.val (.val (.int .i64 10)))]]) <|
  .seq (.block 0 (.loop E_gerundref08_reader_group_0)) <|
  .seq (ag [aa 38 3,aa 2 38]) <|
  .ret,
  [.tmp 2],39⟩
theorem D_gerundref08_reader_group_ok:compDF Tryz.prog 203 []=some D_gerundref08_reader_group:=by kernel_rfl
def E_gerundref08_reader_refs_0:DC :=
  .seq (.seq (ag [aa 4 0,aD 5 248 [(.tmp 4),(.val (.val (.int .i64 1))),(.val (.val (.int .i64 2)))]]) <|
  .cond (.tmp 5) (.skip) (.exit 0)) <|
  .block 1 (.region [] [⟨none,[aa 6 3,aa 7 0,aD 8 202 [(.tmp 7),(.val (.val (.int .i64 1))),(.val (.val (.int .i64 2)))],((some 9),.op (.bslice 1 2 [(.val (.string ⟨#[]⟩)),(.val (.complex .f64 0 0))] [(0,(.tmp 8))])),((some 10),.op (.app 2 32 (.tmp 6) (.tmp 9))),aa 3 10]⟩])
def D_gerundref08_reader_refs:DF:=⟨.seq (ag [((some 2),.op (.mov (.val (.emp 1))))]) <|
  .seq (ag [((some 3),.op (.mov (.val (.emp 1))))]) <|
  .seq (.block 0 (.loop E_gerundref08_reader_refs_0)) <|
  .seq (ag [aa 11 3,aa 2 11]) <|
  .ret,
  [.tmp 2],12⟩
theorem D_gerundref08_reader_refs_ok:compDF Tryz.prog 247 []=some D_gerundref08_reader_refs:=by kernel_rfl
def D_gerundref08_reader_is:DF:=⟨.seq (ag [aw 6 false]) <|
  .seq (.region [] [⟨none,[aa 7 0,ax 8 7,af 9 0 8,ae 10 9,aj 11 10,ah 12 .gtr 11 0,aa 13 12]⟩,⟨(some (13,true)),[aa 14 0,ao 15 204 [14],aa 16 1,ak 17 .eql 15 16,aa 18 17]⟩,⟨(some (18,false)),[aa 19 0,ao 20 204 [19],aa 21 2,ak 22 .eql 20 21]⟩,⟨(some (13,true)),[ay 23 18 22]⟩,⟨none,[az 24 13 23,aa 6 24]⟩]) <|
  .ret,
  [.tmp 6],25⟩
theorem D_gerundref08_reader_is_ok:compDF Tryz.prog 248 []=some D_gerundref08_reader_is:=by kernel_rfl
def D_gerundref08_reader_take:DF:=⟨.seq (.region [] [⟨none,[((some 6),.op (.alloc [(.val (.string ⟨#[]⟩)),(.val (.complex .f64 0 0))]))]⟩]) <|
  .seq (.seq (.region [] [⟨none,[aa 8 0,ax 9 8,af 10 3 9,ae 11 10,ah 12 .neq 11 0,aa 13 12]⟩,⟨(some (13,false)),[aa 14 0,aa 15 1,aa 16 2,ao 17 248 [14,15,16],aB 18 17]⟩,⟨none,[ay 19 13 18]⟩]) <|
  .cond (.tmp 19) (.seq (ag [aa 20 0,ao 21 205 [20]]) <|
  .seq (.region [] [⟨none,[((some 22),.op (.build [(.val (.string ⟨#[]⟩)),(.val (.complex .f64 0 0))] [])),(none,.op (.store 2 (.tmp 6) (.tmp 22)))]⟩]) <|
  .ret) (.skip)) <|
  .seq (.region [] [⟨none,[aa 23 0,ax 24 23,af 25 0 24,ae 26 25,((some 27),.op (.idx 3 (.tmp 26) (.val (.val (.int .i64 0))))),au 28 3 27,((some 7),.op (.alloc [(.val (.int .i64 0)),(.val (.string ⟨#[]⟩)),(.val (.complex .f64 0 0))])),(none,.op (.store 3 (.tmp 7) (.tmp 28)))]⟩]) <|
  .seq (ag [aa 29 0,aa 30 0,ax 31 30,af 32 0 31,ae 33 32,((some 34),.op (.slice 3 (.tmp 33) (some (.val (.val (.int .i64 1)))) none)),ax 35 29,af 36 0 35,(none,.op (.store 1 (.tmp 36) (.tmp 34)))]) <|
  .seq (.region [] [⟨none,[af 37 1 7,ae 38 37,af 39 2 7,ae 40 39,((some 41),.op (.build [(.val (.string ⟨#[]⟩)),(.val (.complex .f64 0 0))] [(0,1,(.tmp 38)),(1,1,(.tmp 40))])),(none,.op (.store 2 (.tmp 6) (.tmp 41)))]⟩]) <|
  .ret,
  [.cell 6 (some 2)],42⟩
theorem D_gerundref08_reader_take_ok:compDF Tryz.prog 202 []=some D_gerundref08_reader_take:=by kernel_rfl
def D_gerundref08_reader_fail:DF:=⟨.seq (.seq (ag [aa 2 0,ax 3 2,af 4 3 3,ae 5 4,ah 6 .neq 5 0]) <|
  .cond (.tmp 6) (.ret) (.skip)) <|
  .seq (ag [aa 7 0,aa 8 0,aa 9 0,ax 10 9,af 11 1 10,ae 12 11,ax 13 7,af 14 2 13,(none,.op (.store 1 (.tmp 14) (.tmp 12))),ax 15 8,af 16 3 15,(none,.op (.store 1 (.tmp 16) (.val (.val (.int .i64 4)))))]) <|
  .seq (ag [aa 17 0,ax 18 17,af 19 0 18,ae 20 19,aj 21 20,ah 22 .gtr 21 0]) <|
  .cond (.tmp 22) (ag [aa 23 0,aa 24 0,aa 25 0,ax 26 25,af 27 0 26,ae 28 27,((some 29),.op (.idx 3 (.tmp 28) (.val (.val (.int .i64 0))))),af 30 2 29,ae 31 30,ax 32 23,af 33 2 32,(none,.op (.store 1 (.tmp 33) (.tmp 31))),ax 34 24,af 35 3 34,(none,.op (.store 1 (.tmp 35) (.val (.val (.int .i64 3)))))]) (.skip),
  [],36⟩
theorem D_gerundref08_reader_fail_ok:compDF Tryz.prog 205 []=some D_gerundref08_reader_fail:=by kernel_rfl
def E_gerundref08_reader_decls_0:DC :=
  .seq (.seq (.region [] [⟨none,[aa 6 0,ax 7 6,af 8 3 7,ae 9 8,ah 10 .eql 9 0,aa 11 10]⟩,⟨(some (11,true)),[aa 12 0,ax 13 12,af 14 0 13,ae 15 14,aj 16 15,ah 17 .gtr 16 0]⟩,⟨none,[az 18 11 17,aa 19 18]⟩,⟨(some (19,true)),[aa 20 0,ao 21 204 [20],ah 22 .neq 21 9]⟩,⟨none,[az 23 19 22]⟩]) <|
  .cond (.tmp 23) (.skip) (.exit 0)) <|
  .block 1 (.seq (ag [aa 24 0,ao 25 204 [24],aa 4 25]) <|
  .seq (.seq (ag [aa 26 4,ah 27 .eql 26 7]) <|
  .cond (.tmp 27) (.seq (ag [aa 28 0,aa 29 4,aa 30 4,ao 31 202 [28,29,30]]) <|
  .seq (.region [] [⟨none,[aa 32 3,aa 33 4,aa 34 0,aD 35 202 [(.tmp 34),(.val (.val (.int .i64 1))),(.val (.val (.int .i64 1)))],((some 36),.op (.bslice 1 2 [(.val (.string ⟨#[]⟩)),(.val (.complex .f64 0 0))] [(0,(.tmp 35))])),((some 37),.op (.build [(.val (.int .i64 0)),(.emp 1)] [(0,1,(.tmp 33)),(1,1,(.tmp 36))])),((some 38),.op (.bslice 1 2 [(.val (.int .i64 0)),(.emp 1)] [(0,(.tmp 37))])),((some 39),.op (.app 2 32 (.tmp 32) (.tmp 38))),aa 3 39]⟩]) <|
  .exit 1) (.skip)) <|
  .seq (.seq (.region [] [⟨none,[aa 40 4,ah 41 .neq 40 3,aa 42 41]⟩,⟨(some (42,true)),[aa 43 4,ah 44 .neq 43 4]⟩,⟨none,[az 45 42 44,aa 46 45]⟩,⟨(some (46,true)),[aa 47 4,ah 48 .neq 47 5]⟩,⟨none,[az 49 46 48,aa 50 49]⟩,⟨(some (50,true)),[aa 51 4,ah 52 .neq 51 6]⟩,⟨none,[az 53 50 52]⟩]) <|
  .cond (.tmp 53) (.seq (ag [aa 54 0,ao 55 205 [54]]) <|
  .exit 1) (.skip)) <|
  .seq (ag [aa 56 0,aa 57 4,aa 58 4,ao 59 202 [56,57,58]]) <|
  .seq (.region [] [⟨none,[aa 60 0,aD 61 202 [(.tmp 60),(.val (.val (.int .i64 1))),(.val (.val (.int .i64 2)))],((some 5),.op (.alloc [(.val (.string ⟨#[]⟩)),(.val (.complex .f64 0 0))])),(none,.op (.store 2 (.tmp 5) (.tmp 61)))]⟩]) <|
  .region [(2,5),(3,5)] [⟨none,[aa 62 3,aa 63 4,au 64 2 5,((some 65),.op (.bslice 1 2 [(.val (.string ⟨#[]⟩)),(.val (.complex .f64 0 0))] [(0,(.tmp 64))])),aa 66 0,ao 67 247 [66],((some 68),.op (.app 2 32 (.tmp 65) (.tmp 67))),((some 69),.op (.build [(.val (.int .i64 0)),(.emp 1)] [(0,1,(.tmp 63)),(1,1,(.tmp 68))])),((some 70),.op (.bslice 1 2 [(.val (.int .i64 0)),(.emp 1)] [(0,(.tmp 69))])),((some 71),.op (.app 2 32 (.tmp 62) (.tmp 70))),aa 3 71]⟩])
def D_gerundref08_reader_decls:DF:=⟨.seq (ag [((some 2),.op (.mov (.val (.emp 1))))]) <|
  .seq (ag [((some 3),.op (.mov (.val (.emp 1))))]) <|
  .seq (.block 0 (.loop E_gerundref08_reader_decls_0)) <|
  .seq (ag [aa 72 3,aa 2 72]) <|
  .ret,
  [.tmp 2],73⟩
theorem D_gerundref08_reader_decls_ok:compDF Tryz.prog 201 []=some D_gerundref08_reader_decls:=by kernel_rfl
def E_gerundref09_Build_0:DC :=
  .seq (.seq (.region [] [⟨none,[aa 17 6,af 18 1 1,ae 19 18,aj 20 19,ak 21 .lss 17 20,aa 22 21]⟩,⟨(some (22,true)),[aa 23 5,ax 24 23,af 25 10 24,ae 26 25,ah 27 .eql 26 0]⟩,⟨none,[az 28 22 27]⟩]) <|
  .cond (.tmp 28) (.skip) (.exit 0)) <|
  .seq (.block 1 (ag [aa 31 5,af 32 1 1,ae 33 32,aa 34 6,av 35 5 33 34,au 36 5 35,ao 37 144 [31,36]])) <|
  ag [aa 29 6,ah 30 .add 29 1,aa 6 30]
def D_gerundref09_Build:DF:=⟨.seq (ag [aC 1 0,((some 2),.op (.alloc [(.emp 1),(.emp 1),(.emp 1),(.val (.int .i64 0))])),((some 3),.op (.mov (.val (.val (.complex .f64 0 0))))),ai 4 0]) <|
  .seq (.region [] [⟨none,[((some 7),.op (.build [(.emp 1),(.emp 1),(.emp 1),(.val (.int .i64 0)),(.emp 1),(.val (.string ⟨#[]⟩)),(.val (.complex .f64 0 0)),(.val (.bool false)),(.val (.int .i64 0)),(.val (.complex .f64 0 0)),(.val (.int .i64 0))] [])),((some 8),.op (.box (.tmp 7))),aa 5 8]⟩]) <|
  .seq (ag [aa 9 5,af 10 0 1,ae 11 10,ao 12 142 [9,11]]) <|
  .seq (ag [aa 13 5,af 14 1 1,ae 15 14,ao 16 143 [13,15]]) <|
  .seq (.seq (ag [ai 6 0]) <|
  .block 0 (.loop E_gerundref09_Build_0)) <|
  .seq (.seq (.region [] [⟨none,[aa 38 5,ax 39 38,af 40 7 39,ae 41 40,aa 42 41]⟩,⟨(some (42,true)),[aa 43 5,ax 44 43,af 45 0 44,au 46 4 45,aa 47 5,ax 48 47,af 49 5 48,af 50 0 49,ae 51 50,ao 52 145 [46,51],ah 53 .lss 52 0]⟩,⟨none,[az 54 42 53]⟩]) <|
  .cond (.tmp 54) (ag [aa 55 5,aa 56 5,ax 57 56,af 58 5 57,au 59 2 58,aD 60 146 [(.tmp 55),(.tmp 59),(.val (.val (.int .i64 8)))]]) (.skip)) <|
  .seq (.seq (ag [af 61 1 1,ae 62 61,aj 63 62,ah 64 .eql 63 0]) <|
  .cond (.tmp 64) (.region [] [⟨none,[aa 65 5,((some 66),.op (.build [(.val (.string ⟨#[]⟩)),(.val (.complex .f64 0 0))] [])),aD 67 146 [(.tmp 65),(.tmp 66),(.val (.val (.int .i64 8)))]]⟩]) (.skip)) <|
  .seq (.seq (ag [aa 68 5,ax 69 68,af 70 10 69,ae 71 70,ah 72 .neq 71 0]) <|
  .cond (.tmp 72) (.seq (.region [(4,9),(8,9)] [⟨none,[((some 73),.op (.build [(.emp 1),(.emp 1),(.emp 1),(.val (.int .i64 0))] [])),aa 74 5,ax 75 74,af 76 9 75,ae 77 76,aa 78 5,ax 79 78,af 80 10 79,ae 81 80,(none,.op (.store 4 (.tmp 2) (.tmp 73))),aa 3 77,aa 4 81]⟩]) <|
  .ret) (.skip)) <|
  .seq (.seq (ag [aa 82 5,ax 83 82,af 84 7 83,ae 85 84]) <|
  .cond (.tmp 85) (ag [aa 86 5,aa 87 5,ax 88 87,af 89 0 88,au 90 4 89,aa 91 5,ax 92 91,af 93 5 92,af 94 0 93,ae 95 94,ao 96 145 [90,95],ax 97 86,af 98 0 97,af 99 3 98,(none,.op (.store 1 (.tmp 99) (.tmp 96)))]) (.skip)) <|
  .seq (ag [aa 100 5,ax 101 100,af 102 0 101,au 103 4 102,(none,.op (.store 4 (.tmp 2) (.tmp 103))),((some 3),.op (.mov (.val (.val (.complex .f64 0 0))))),ai 4 0]) <|
  .ret,
  [.cell 2 (some 4),.tmp 3,.tmp 4],104⟩
theorem D_gerundref09_Build_ok:compDF Tryz.prog 99 [1]=some D_gerundref09_Build:=by kernel_rfl
def E_gerundref09_work_prod_0:DC :=
  .seq (.seq (.region [] [⟨none,[aa 28 5,af 29 2 3,ae 30 29,aj 31 30,ak 32 .lss 28 31,aa 33 32]⟩,⟨(some (33,true)),[aa 34 0,ax 35 34,af 36 10 35,ae 37 36,ah 38 .eql 37 0]⟩,⟨none,[az 39 33 38]⟩]) <|
  .cond (.tmp 39) (.skip) (.exit 0)) <|
  .seq (.block 1 (.seq (.region [] [⟨none,[af 42 2 3,ae 43 42,aa 44 5,av 45 2 43 44,au 46 2 45,((some 6),.op (.alloc [(.val (.string ⟨#[]⟩)),(.val (.complex .f64 0 0))])),(none,.op (.store 2 (.tmp 6) (.tmp 46)))]⟩]) <|
  .seq (.seq (ag [af 47 0 6,ae 48 47,ao 49 168 [48],aB 50 49]) <|
  .cond (.tmp 50) (.seq (ag [aa 51 0,au 52 2 6,aD 53 146 [(.tmp 51),(.tmp 52),(.val (.val (.int .i64 3)))]]) <|
  .ret) (.skip)) <|
  .seq (.seq (ag [aa 54 5,ah 55 .eql 54 6]) <|
  .cond (.tmp 55) (.seq (ag [aa 56 0,au 57 2 6,aD 58 146 [(.tmp 56),(.tmp 57),(.val (.val (.int .i64 5)))]]) <|
  .ret) (.skip)) <|
  .seq (ag [aa 59 0,au 60 2 6,aD 61 207 [(.tmp 59),(.tmp 60),(.val (.val (.bool true)))],aa 7 61]) <|
  .seq (ag [af 62 1 4,ae 63 62,aa 64 7,((some 65),.op (.bslice 1 1 [(.val (.int .i64 0))] [(0,(.tmp 64))])),((some 66),.op (.app 1 8 (.tmp 63) (.tmp 65))),af 67 1 4,(none,.op (.store 1 (.tmp 67) (.tmp 66)))]) <|
  .seq (ag [aa 68 7,ah 69 .geq 68 0]) <|
  .cond (.tmp 69) (ag [aa 70 7,af 71 2 4,(none,.op (.store 1 (.tmp 71) (.tmp 70)))]) (.skip))) <|
  ag [aa 40 5,ah 41 .add 40 1,aa 5 41]
def D_gerundref09_work_prod:DF:=⟨.seq (ag [aC 3 1]) <|
  .seq (.region [(7,9)] [⟨none,[aa 8 0,ax 9 8,af 10 0 9,au 11 4 10,af 12 0 3,af 13 0 12,ae 14 13,ao 15 145 [11,14],((some 16),.op (.build [(.val (.int .i64 0)),(.emp 1),(.val (.int .i64 0))] [(0,1,(.tmp 15)),(2,1,(.val (.val (.int .i64 (-1)))))])),((some 4),.op (.alloc [(.val (.int .i64 0)),(.emp 1),(.val (.int .i64 0))])),(none,.op (.store 3 (.tmp 4) (.tmp 16)))]⟩]) <|
  .seq (.seq (ag [aa 17 0,ax 18 17,af 19 0 18,af 20 2 19,ae 21 20,aj 22 21,ah 23 .eql 22 40]) <|
  .cond (.tmp 23) (ag [aa 24 0,af 25 0 3,au 26 2 25,aD 27 146 [(.tmp 24),(.tmp 26),(.val (.val (.int .i64 5)))]]) (.skip)) <|
  .seq (.seq (ag [ai 5 0]) <|
  .block 0 (.loop E_gerundref09_work_prod_0)) <|
  .seq (.seq (.region [] [⟨none,[af 72 3 3,af 73 0 72,ae 74 73,((some 75),.op (.sop .neq (.tmp 74) (.val (.val (.string ⟨#[]⟩))))),aa 76 75]⟩,⟨(some (76,true)),[aa 77 0,ax 78 77,af 79 10 78,ae 80 79,ah 81 .eql 80 0]⟩,⟨none,[az 82 76 81]⟩]) <|
  .cond (.tmp 82) (.seq (.seq (ag [af 83 3 3,af 84 0 83,ae 85 84,ao 86 168 [85],aB 87 86]) <|
  .cond (.tmp 87) (.seq (ag [aa 88 0,af 89 3 3,au 90 2 89,aD 91 146 [(.tmp 88),(.tmp 90),(.val (.val (.int .i64 3)))]]) <|
  .ret) (.skip)) <|
  ag [aa 92 0,af 93 3 3,au 94 2 93,aD 95 207 [(.tmp 92),(.tmp 94),(.val (.val (.bool false)))],af 96 2 4,(none,.op (.store 1 (.tmp 96) (.tmp 95)))]) (.skip)) <|
  ag [aa 97 0,aa 98 0,ax 99 98,af 100 0 99,af 101 2 100,ae 102 101,au 103 3 4,((some 104),.op (.bslice 1 3 [(.val (.int .i64 0)),(.emp 1),(.val (.int .i64 0))] [(0,(.tmp 103))])),((some 105),.op (.app 3 40 (.tmp 102) (.tmp 104))),ax 106 97,af 107 0 106,af 108 2 107,(none,.op (.store 1 (.tmp 108) (.tmp 105)))],
  [],109⟩
theorem D_gerundref09_work_prod_ok:compDF Tryz.prog 144 [3]=some D_gerundref09_work_prod:=by kernel_rfl
def D_gerundref09_named:DF:=⟨.seq (ag [aw 2 false]) <|
  .seq (.region [] [⟨none,[aa 3 0,ao 4 171 [3],aa 5 4]⟩,⟨(some (5,false)),[aa 6 0,ao 7 217 [6]]⟩,⟨none,[ay 8 5 7,aa 2 8]⟩]) <|
  .ret,
  [.tmp 2],9⟩
theorem D_gerundref09_named_ok:compDF Tryz.prog 168 []=some D_gerundref09_named:=by kernel_rfl
def E_gerundref07_Name_0:DC :=
  .seq (.seq (ag [aa 18 3,aa 19 0,((some 20),.op (.lenS (.tmp 19))),ak 21 .lss 18 20]) <|
  .cond (.tmp 21) (.skip) (.exit 0)) <|
  .seq (.block 1 (.seq (ag [aa 24 0,aa 25 3,((some 26),.op (.sidx (.tmp 24) (.tmp 25))),ao 27 219 [26],aB 28 27]) <|
  .cond (.tmp 28) (.seq (ag [aw 2 false]) <|
  .ret) (.skip))) <|
  ag [aa 22 3,ah 23 .add 22 1,aa 3 23]
def D_gerundref07_Name:DF:=⟨.seq (ag [aw 2 false]) <|
  .seq (.seq (.region [] [⟨none,[aa 4 0,((some 5),.op (.lenS (.tmp 4))),ah 6 .eql 5 0,aa 7 6]⟩,⟨(some (7,false)),[aa 8 0,((some 9),.op (.lenS (.tmp 8))),ah 10 .gtr 9 20]⟩,⟨none,[ay 11 7 10,aa 12 11]⟩,⟨(some (12,false)),[aa 13 0,((some 14),.op (.sidx (.tmp 13) (.val (.val (.int .i64 0))))),ao 15 218 [14],aB 16 15]⟩,⟨none,[ay 17 12 16]⟩]) <|
  .cond (.tmp 17) (.seq (ag [aw 2 false]) <|
  .ret) (.skip)) <|
  .seq (.seq (ag [ai 3 0]) <|
  .block 0 (.loop E_gerundref07_Name_0)) <|
  .seq (ag [aw 2 true]) <|
  .ret,
  [.tmp 2],29⟩
theorem D_gerundref07_Name_ok:compDF Tryz.prog 171 []=some D_gerundref07_Name:=by kernel_rfl
def D_gerundref09_work_fail:DF:=⟨.seq (ag [aC 4 1]) <|
  .seq (ag [aa 6 0,ax 7 6,af 8 10 7,ae 9 8,ah 10 .eql 9 0]) <|
  .cond (.tmp 10) (ag [aa 11 0,aa 12 0,af 13 1 4,ae 14 13,aa 15 2,ax 16 11,af 17 9 16,(none,.op (.store 1 (.tmp 17) (.tmp 14))),ax 18 12,af 19 10 18,(none,.op (.store 1 (.tmp 19) (.tmp 15)))]) (.skip),
  [],20⟩
theorem D_gerundref09_work_fail_ok:compDF Tryz.prog 146 [4]=some D_gerundref09_work_fail:=by kernel_rfl
def D_gerundref09_work_symbol:DF:=⟨.seq (ag [aC 4 1,ai 6 0]) <|
  .seq (ag [aa 8 0,ax 9 8,af 10 0 9,au 11 4 10,af 12 0 4,ae 13 12,ao 14 145 [11,13],aa 7 14]) <|
  .seq (.block 0 (.seq (.region [] [⟨none,[aa 19 7,ah 20 .geq 19 0,aa 21 20]⟩,⟨(some (21,true)),[aa 22 2]⟩,⟨none,[az 23 21 22,aa 18 23]⟩]) <|
  .cond (.tmp 18) (.seq (ag [aa 24 7,((some 25),.op (.arith .sub (.val (.val (.int .i64 (-1)))) (.tmp 24))),aa 6 25]) <|
  .ret) (.seq (ag [aa 27 7,ah 28 .geq 27 0,aa 26 28]) <|
  .cond (.tmp 26) (ag [aa 29 0,au 30 2 4,aD 31 146 [(.tmp 29),(.tmp 30),(.val (.val (.int .i64 6)))]]) (.seq (.region [] [⟨none,[aa 33 0,ax 34 33,af 35 0 34,au 36 4 35,af 37 0 4,ae 38 37,ao 39 169 [36,38],ah 40 .geq 39 0,aa 41 40]⟩,⟨(some (41,false)),[af 42 0 4,ae 43 42,ao 44 217 [43]]⟩,⟨none,[ay 45 41 44,aa 46 45]⟩,⟨(some (46,false)),[af 47 0 4,ae 48 47,((some 49),.op (.sop .eql (.tmp 48) (.val (.val (.string ⟨#[101,114,114,111,114]⟩)))))]⟩,⟨none,[ay 50 46 49,aa 32 50]⟩]) <|
  .cond (.tmp 32) (.seq (ag [aa 51 0,au 52 2 4,ao 53 250 [51,52],aa 6 53]) <|
  .ret) (ag [aa 15 0,au 16 2 4,aD 17 146 [(.tmp 15),(.tmp 16),(.val (.val (.int .i64 6)))]]))))) <|
  .seq (ag [ai 6 0]) <|
  .ret,
  [.tmp 6],54⟩
theorem D_gerundref09_work_symbol_ok:compDF Tryz.prog 207 [4]=some D_gerundref09_work_symbol:=by kernel_rfl
def E_gerundref09_non_0:DC :=
  .seq (.seq (ag [aa 6 5,af 7 1 2,ae 8 7,aj 9 8,ak 10 .lss 6 9]) <|
  .cond (.tmp 10) (.skip) (.exit 0)) <|
  .seq (.block 1 (.seq (ag [af 13 1 2,ae 14 13,aa 15 5,av 16 1 14 15,ae 17 16,aa 18 1,((some 19),.op (.sop .eql (.tmp 17) (.tmp 18)))]) <|
  .cond (.tmp 19) (.seq (ag [aa 20 5,aa 4 20]) <|
  .ret) (.skip))) <|
  ag [aa 11 5,ah 12 .add 11 1,aa 5 12]
def D_gerundref09_non:DF:=⟨.seq (ag [aC 2 0,ai 4 0]) <|
  .seq (.seq (ag [ai 5 0]) <|
  .block 0 (.loop E_gerundref09_non_0)) <|
  .seq (ag [ai 4 (-1)]) <|
  .ret,
  [.tmp 4],21⟩
theorem D_gerundref09_non_ok:compDF Tryz.prog 145 [2]=some D_gerundref09_non:=by kernel_rfl
def E_gerundref09_term_0:DC :=
  .seq (.seq (ag [aa 6 5,af 7 0 2,ae 8 7,aj 9 8,ak 10 .lss 6 9]) <|
  .cond (.tmp 10) (.skip) (.exit 0)) <|
  .seq (.block 1 (.seq (ag [af 13 0 2,ae 14 13,aa 15 5,av 16 3 14 15,af 17 0 16,ae 18 17,aa 19 1,((some 20),.op (.sop .eql (.tmp 18) (.tmp 19)))]) <|
  .cond (.tmp 20) (.seq (ag [aa 21 5,aa 4 21]) <|
  .ret) (.skip))) <|
  ag [aa 11 5,ah 12 .add 11 1,aa 5 12]
def D_gerundref09_term:DF:=⟨.seq (ag [aC 2 0,ai 4 0]) <|
  .seq (.seq (ag [ai 5 0]) <|
  .block 0 (.loop E_gerundref09_term_0)) <|
  .seq (ag [ai 4 (-1)]) <|
  .ret,
  [.tmp 4],22⟩
theorem D_gerundref09_term_ok:compDF Tryz.prog 169 [2]=some D_gerundref09_term:=by kernel_rfl
def D_gerundref09_work_terminal:DF:=⟨.seq (ag [aC 3 1,ai 4 0]) <|
  .seq (ag [aa 6 0,ax 7 6,af 8 0 7,au 9 4 8,af 10 0 3,ae 11 10,ao 12 169 [9,11],aa 5 12]) <|
  .seq (.seq (ag [aa 13 5,ah 14 .geq 13 0]) <|
  .cond (.tmp 14) (.seq (ag [aa 15 5,aa 4 15]) <|
  .ret) (.skip)) <|
  .seq (.seq (ag [aa 16 0,ax 17 16,af 18 0 17,af 19 0 18,ae 20 19,aj 21 20,ah 22 .eql 21 24]) <|
  .cond (.tmp 22) (.seq (ag [aa 23 0,au 24 2 3,aD 25 146 [(.tmp 23),(.tmp 24),(.val (.val (.int .i64 5)))]]) <|
  .seq (ag [ai 4 0]) <|
  .ret) (.skip)) <|
  .seq (.region [] [⟨none,[aa 26 0,aa 27 0,ax 28 27,af 29 0 28,af 30 0 29,ae 31 30,af 32 0 3,ae 33 32,((some 34),.op (.build [(.val (.string ⟨#[]⟩)),(.val (.int .i64 0)),(.val (.int .i64 0))] [(0,1,(.tmp 33))])),((some 35),.op (.bslice 1 3 [(.val (.string ⟨#[]⟩)),(.val (.int .i64 0)),(.val (.int .i64 0))] [(0,(.tmp 34))])),((some 36),.op (.app 3 32 (.tmp 31) (.tmp 35))),ax 37 26,af 38 0 37,af 39 0 38,(none,.op (.store 1 (.tmp 39) (.tmp 36)))]⟩]) <|
  .seq (ag [aa 40 0,ax 41 40,af 42 0 41,af 43 0 42,ae 44 43,aj 45 44,ah 46 .sub 45 1,aa 4 46]) <|
  .ret,
  [.tmp 4],47⟩
theorem D_gerundref09_work_terminal_ok:compDF Tryz.prog 250 [3]=some D_gerundref09_work_terminal:=by kernel_rfl
def E_gerundref09_work_decls_0:DC :=
  .seq (.seq (.region [] [⟨none,[aa 60 7,af 61 1 5,ae 62 61,aj 63 62,ak 64 .lss 60 63,aa 65 64]⟩,⟨(some (65,true)),[aa 66 0,ax 67 66,af 68 10 67,ae 69 68,ah 70 .eql 69 0]⟩,⟨none,[az 71 65 70]⟩]) <|
  .cond (.tmp 71) (.skip) (.exit 2)) <|
  .seq (.block 3 (ag [aa 74 0,af 75 0 5,ae 76 75,af 77 1 5,ae 78 77,aa 79 7,av 80 2 78 79,au 81 2 80,ao 82 206 [74,76,81]])) <|
  ag [aa 72 7,ah 73 .add 72 1,aa 7 73]
def E_gerundref09_work_decls_1:DC :=
  .seq (.seq (.region [] [⟨none,[aa 8 4,aa 9 1,aj 10 9,ak 11 .lss 8 10,aa 12 11]⟩,⟨(some (12,true)),[aa 13 0,ax 14 13,af 15 10 14,ae 16 15,ah 17 .eql 16 0]⟩,⟨none,[az 18 12 17]⟩]) <|
  .cond (.tmp 18) (.skip) (.exit 0)) <|
  .seq (.block 1 (.seq (ag [aa 21 1,aa 22 4,av 23 2 21 22,au 24 2 23,((some 5),.op (.alloc [(.val (.int .i64 0)),(.emp 1)])),(none,.op (.store 2 (.tmp 5) (.tmp 24)))]) <|
  .seq (.seq (.region [] [⟨none,[af 25 0 5,ae 26 25,ah 27 .lss 26 3,aa 28 27]⟩,⟨(some (28,false)),[af 29 0 5,ae 30 29,ah 31 .gtr 30 7]⟩,⟨none,[ay 32 28 31]⟩]) <|
  .cond (.tmp 32) (.seq (.region [] [⟨none,[((some 33),.op (.build [(.val (.string ⟨#[]⟩)),(.val (.complex .f64 0 0))] [])),((some 6),.op (.alloc [(.val (.string ⟨#[]⟩)),(.val (.complex .f64 0 0))])),(none,.op (.store 2 (.tmp 6) (.tmp 33)))]⟩]) <|
  .seq (.seq (ag [af 34 1 5,ae 35 34,aj 36 35,ah 37 .gtr 36 0]) <|
  .cond (.tmp 37) (ag [af 38 1 5,ae 39 38,((some 40),.op (.idx 2 (.tmp 39) (.val (.val (.int .i64 0))))),au 41 2 40,(none,.op (.store 2 (.tmp 6) (.tmp 41)))]) (.skip)) <|
  .seq (ag [aa 42 0,au 43 2 6,aD 44 146 [(.tmp 42),(.tmp 43),(.val (.val (.int .i64 3)))]]) <|
  .ret) (.skip)) <|
  .seq (.seq (.region [] [⟨none,[af 45 0 5,ae 46 45,ah 47 .neq 46 3,aa 48 47]⟩,⟨(some (48,true)),[af 49 0 5,ae 50 49,ah 51 .neq 50 7]⟩,⟨none,[az 52 48 51]⟩]) <|
  .cond (.tmp 52) (ag [aa 53 0,ax 54 53,af 55 8 54,ae 56 55,ah 57 .add 56 1,ax 58 53,af 59 8 58,(none,.op (.store 1 (.tmp 59) (.tmp 57)))]) (.skip)) <|
  .seq (ag [ai 7 0]) <|
  .block 2 (.loop E_gerundref09_work_decls_0))) <|
  ag [aa 19 4,ah 20 .add 19 1,aa 4 20]
def D_gerundref09_work_decls:DF:=⟨.seq (ag [ai 4 0]) <|
  .block 0 (.loop E_gerundref09_work_decls_1),
  [],83⟩
theorem D_gerundref09_work_decls_ok:compDF Tryz.prog 142 []=some D_gerundref09_work_decls:=by kernel_rfl
def D_gerundref09_work_declare:DF:=⟨.seq (ag [aC 5 2]) <|
  .block 0 (.seq (.region [] [⟨none,[af 63 0 5,ae 64 63,ao 65 168 [64],aB 66 65,aa 67 66]⟩,⟨(some (67,false)),[aa 68 1,ah 69 .eql 68 7,aa 70 69]⟩,⟨(some (70,true)),[af 71 0 5,ae 72 71,ao 73 171 [72],aB 74 73]⟩,⟨(some (67,false)),[az 75 70 74]⟩,⟨none,[ay 76 67 75,aa 62 76]⟩]) <|
  .cond (.tmp 62) (ag [aa 77 0,au 78 2 5,aD 79 146 [(.tmp 77),(.tmp 78),(.val (.val (.int .i64 3)))]]) (.seq (ag [aa 81 1,ah 82 .eql 81 7,aa 80 82]) <|
  .cond (.tmp 80) (.seq (.seq (ag [aa 83 0,ax 84 83,af 85 7 84,ae 86 85]) <|
  .cond (.tmp 86) (ag [aa 87 0,au 88 2 5,aD 89 146 [(.tmp 87),(.tmp 88),(.val (.val (.int .i64 7)))]]) (.skip)) <|
  ag [aa 90 0,aa 91 0,au 92 2 5,ax 93 90,af 94 5 93,(none,.op (.store 2 (.tmp 94) (.tmp 92))),ax 95 91,af 96 7 95,(none,.op (.store 1 (.tmp 96) (.val (.val (.bool true)))))]) (.seq (ag [aa 98 1,ah 99 .eql 98 3,aa 97 99]) <|
  .cond (.tmp 97) (.seq (.seq (ag [aa 100 0,ax 101 100,af 102 4 101,ae 103 102,af 104 0 5,ae 105 104,ao 106 249 [103,105]]) <|
  .cond (.tmp 106) (ag [aa 107 0,au 108 2 5,aD 109 146 [(.tmp 107),(.tmp 108),(.val (.val (.int .i64 7)))]]) (.skip)) <|
  .seq (.region [] [⟨none,[aa 110 0,aa 111 0,ax 112 111,af 113 4 112,ae 114 113,af 115 0 5,ae 116 115,((some 117),.op (.bslice 1 1 [(.val (.string ⟨#[]⟩))] [(0,(.tmp 116))])),((some 118),.op (.app 1 16 (.tmp 114) (.tmp 117))),ax 119 110,af 120 4 119,(none,.op (.store 1 (.tmp 120) (.tmp 118)))]⟩]) <|
  ag [aa 121 0,au 122 2 5,ao 123 250 [121,122]]) (.seq (ag [aa 7 0,ax 8 7,af 9 0 8,au 10 4 9,af 11 0 5,ae 12 11,ao 13 169 [10,12],aa 6 13]) <|
  .seq (.seq (.region [] [⟨none,[aa 14 6,ah 15 .geq 14 0,aa 16 15]⟩,⟨(some (16,true)),[aa 17 0,ax 18 17,af 19 0 18,af 20 0 19,ae 21 20,aa 22 6,av 23 3 21 22,af 24 1 23,ae 25 24,ah 26 .gtr 25 0]⟩,⟨none,[az 27 16 26]⟩]) <|
  .cond (.tmp 27) (.seq (ag [aa 28 0,au 29 2 5,aD 30 146 [(.tmp 28),(.tmp 29),(.val (.val (.int .i64 7)))]]) <|
  .ret) (.skip)) <|
  .seq (ag [aa 31 0,au 32 2 5,ao 33 250 [31,32],aa 6 33]) <|
  .seq (ag [aa 34 0,ax 35 34,af 36 10 35,ae 37 36,ah 38 .eql 37 0]) <|
  .cond (.tmp 38) (ag [aa 39 0,ax 40 39,af 41 0 40,af 42 0 41,ae 43 42,aa 44 6,aa 45 0,ax 46 45,af 47 0 46,af 48 0 47,ae 49 48,aa 50 6,aa 51 0,ax 52 51,af 53 8 52,ae 54 53,aa 55 1,ah 56 .sub 55 4,ah 57 .add 56 1,av 58 3 43 44,af 59 1 58,(none,.op (.store 1 (.tmp 59) (.tmp 54))),av 60 3 49 50,af 61 2 60,(none,.op (.store 1 (.tmp 61) (.tmp 57)))]) (.skip))))),
  [],124⟩
theorem D_gerundref09_work_declare_ok:compDF Tryz.prog 206 [5]=some D_gerundref09_work_declare:=by kernel_rfl
def E_gerundref09_has_0:DC :=
  .seq (.seq (ag [aa 6 5,aa 7 0,aj 8 7,ak 9 .lss 6 8]) <|
  .cond (.tmp 9) (.skip) (.exit 0)) <|
  .seq (.block 1 (.seq (ag [aa 12 0,aa 13 5,av 14 1 12 13,ae 15 14,aa 16 1,((some 17),.op (.sop .eql (.tmp 15) (.tmp 16)))]) <|
  .cond (.tmp 17) (.seq (ag [aw 4 true]) <|
  .ret) (.skip))) <|
  ag [aa 10 5,ah 11 .add 10 1,aa 5 11]
def D_gerundref09_has:DF:=⟨.seq (ag [aw 4 false]) <|
  .seq (.seq (ag [ai 5 0]) <|
  .block 0 (.loop E_gerundref09_has_0)) <|
  .seq (ag [aw 4 false]) <|
  .ret,
  [.tmp 4],18⟩
theorem D_gerundref09_has_ok:compDF Tryz.prog 249 []=some D_gerundref09_has:=by kernel_rfl
def E_gerundref09_work_lefts_0:DC :=
  .seq (.seq (.region [] [⟨none,[aa 6 4,aa 7 1,aj 8 7,ak 9 .lss 6 8,aa 10 9]⟩,⟨(some (10,true)),[aa 11 0,ax 12 11,af 13 10 12,ae 14 13,ah 15 .eql 14 0]⟩,⟨none,[az 16 10 15]⟩]) <|
  .cond (.tmp 16) (.skip) (.exit 0)) <|
  .seq (.block 1 (.seq (.region [] [⟨none,[aa 19 1,aa 20 4,av 21 5 19 20,af 22 0 21,au 23 2 22,((some 5),.op (.alloc [(.val (.string ⟨#[]⟩)),(.val (.complex .f64 0 0))])),(none,.op (.store 2 (.tmp 5) (.tmp 23)))]⟩]) <|
  .block 2 (.seq (ag [af 38 0 5,ae 39 38,ao 40 171 [39],aB 41 40,aa 37 41]) <|
  .cond (.tmp 37) (ag [aa 42 0,au 43 2 5,aD 44 146 [(.tmp 42),(.tmp 43),(.val (.val (.int .i64 3)))]]) (.seq (ag [aa 46 0,ax 47 46,af 48 0 47,au 49 4 48,af 50 0 5,ae 51 50,ao 52 169 [49,51],ah 53 .geq 52 0,aa 45 53]) <|
  .cond (.tmp 45) (ag [aa 54 0,au 55 2 5,aD 56 146 [(.tmp 54),(.tmp 55),(.val (.val (.int .i64 7)))]]) (.seq (ag [aa 58 0,ax 59 58,af 60 0 59,au 61 4 60,af 62 0 5,ae 63 62,ao 64 145 [61,63],ah 65 .geq 64 0,aa 57 65]) <|
  .cond (.tmp 57) (.skip) (.seq (ag [aa 67 0,ax 68 67,af 69 0 68,af 70 1 69,ae 71 70,aj 72 71,ah 73 .eql 72 16,aa 66 73]) <|
  .cond (.tmp 66) (ag [aa 74 0,au 75 2 5,aD 76 146 [(.tmp 74),(.tmp 75),(.val (.val (.int .i64 5)))]]) (.region [] [⟨none,[aa 24 0,aa 25 0,ax 26 25,af 27 0 26,af 28 1 27,ae 29 28,af 30 0 5,ae 31 30,((some 32),.op (.bslice 1 1 [(.val (.string ⟨#[]⟩))] [(0,(.tmp 31))])),((some 33),.op (.app 1 16 (.tmp 29) (.tmp 32))),ax 34 24,af 35 0 34,af 36 1 35,(none,.op (.store 1 (.tmp 36) (.tmp 33)))]⟩]))))))) <|
  ag [aa 17 4,ah 18 .add 17 1,aa 4 18]
def D_gerundref09_work_lefts:DF:=⟨.seq (ag [ai 4 0]) <|
  .block 0 (.loop E_gerundref09_work_lefts_0),
  [],77⟩
theorem D_gerundref09_work_lefts_ok:compDF Tryz.prog 143 []=some D_gerundref09_work_lefts:=by kernel_rfl
def tabRead:List (FuncId × DF):=[(52,D_gerundref09_Read),(98,D_gerundref08_Parse),(140,D_gerundref07_Tokens),(198,D_gerundref07_skip),(239,D_gerundref07_has),(240,D_gerundref07_past),(241,D_gerundref07_line),(242,D_gerundref07_action),(260,D_gerundref07_quoted),(199,D_gerundref06_At),(243,D_gerundref06_Of),(200,D_gerundref07_one),(219,D_gerundref07_later),(218,D_gerundref07_first),(217,D_gerundref07_Literal),(244,D_gerundref07_unended),(245,D_gerundref07_percent),(246,D_gerundref07_mark),(141,D_gerundref08_Of),(204,D_gerundref08_reader_kind),(203,D_gerundref08_reader_group),(247,D_gerundref08_reader_refs),(248,D_gerundref08_reader_is),(202,D_gerundref08_reader_take),(205,D_gerundref08_reader_fail),(201,D_gerundref08_reader_decls),(99,D_gerundref09_Build),(144,D_gerundref09_work_prod),(168,D_gerundref09_named),(171,D_gerundref07_Name),(146,D_gerundref09_work_fail),(207,D_gerundref09_work_symbol),(145,D_gerundref09_non),(169,D_gerundref09_term),(250,D_gerundref09_work_terminal),(142,D_gerundref09_work_decls),(206,D_gerundref09_work_declare),(249,D_gerundref09_has),(143,D_gerundref09_work_lefts)]
theorem tabRead_ok:TabOk Tryz.prog tabRead:=by
  intro p hp
  simp only[tabRead,List.mem_cons,List.not_mem_nil,or_false] at hp
  rcases hp with rfl | rfl | rfl | rfl | rfl | rfl | rfl | rfl | rfl | rfl | rfl | rfl | rfl | rfl | rfl | rfl | rfl | rfl | rfl | rfl | rfl | rfl | rfl | rfl | rfl | rfl | rfl | rfl | rfl | rfl | rfl | rfl | rfl | rfl | rfl | rfl | rfl | rfl | rfl
  · exact ⟨_,D_gerundref09_Read_ok⟩
  · exact ⟨_,D_gerundref08_Parse_ok⟩
  · exact ⟨_,D_gerundref07_Tokens_ok⟩
  · exact ⟨_,D_gerundref07_skip_ok⟩
  · exact ⟨_,D_gerundref07_has_ok⟩
  · exact ⟨_,D_gerundref07_past_ok⟩
  · exact ⟨_,D_gerundref07_line_ok⟩
  · exact ⟨_,D_gerundref07_action_ok⟩
  · exact ⟨_,D_gerundref07_quoted_ok⟩
  · exact ⟨_,D_gerundref06_At_ok⟩
  · exact ⟨_,D_gerundref06_Of_ok⟩
  · exact ⟨_,D_gerundref07_one_ok⟩
  · exact ⟨_,D_gerundref07_later_ok⟩
  · exact ⟨_,D_gerundref07_first_ok⟩
  · exact ⟨_,D_gerundref07_Literal_ok⟩
  · exact ⟨_,D_gerundref07_unended_ok⟩
  · exact ⟨_,D_gerundref07_percent_ok⟩
  · exact ⟨_,D_gerundref07_mark_ok⟩
  · exact ⟨_,D_gerundref08_Of_ok⟩
  · exact ⟨_,D_gerundref08_reader_kind_ok⟩
  · exact ⟨_,D_gerundref08_reader_group_ok⟩
  · exact ⟨_,D_gerundref08_reader_refs_ok⟩
  · exact ⟨_,D_gerundref08_reader_is_ok⟩
  · exact ⟨_,D_gerundref08_reader_take_ok⟩
  · exact ⟨_,D_gerundref08_reader_fail_ok⟩
  · exact ⟨_,D_gerundref08_reader_decls_ok⟩
  · exact ⟨_,D_gerundref09_Build_ok⟩
  · exact ⟨_,D_gerundref09_work_prod_ok⟩
  · exact ⟨_,D_gerundref09_named_ok⟩
  · exact ⟨_,D_gerundref07_Name_ok⟩
  · exact ⟨_,D_gerundref09_work_fail_ok⟩
  · exact ⟨_,D_gerundref09_work_symbol_ok⟩
  · exact ⟨_,D_gerundref09_non_ok⟩
  · exact ⟨_,D_gerundref09_term_ok⟩
  · exact ⟨_,D_gerundref09_work_terminal_ok⟩
  · exact ⟨_,D_gerundref09_work_decls_ok⟩
  · exact ⟨_,D_gerundref09_work_declare_ok⟩
  · exact ⟨_,D_gerundref09_has_ok⟩
  · exact ⟨_,D_gerundref09_work_lefts_ok⟩
def encY (l:List Int):V:=.fro (l.map fun x=>[gy x])
theorem encY_tree (l:List Int):Tree (encY l):=tree_fro _ _ fun x _ v hv=>by simp at hv; subst hv; exact .val _
def readOut (g:Gram):V:=.tup [.agg (encG g),.val (.complex .f64 0 0),gi 0]
theorem read_of {l:List Int} {g:Gram} (h:eClosed Tryz.prog tabRead (fun _ _ _=>none) 52 [encY l]=some (readOut g)):PNew Tryz.prog 52 [encY l] (readOut g) :=
  eClosed_ok mixed tabRead_ok (noExt _) (by intro v hv; simp at hv; subst hv; exact encY_tree _) h
abbrev MapL (κ:Type):=List (κ × V × Nat)
def encM {κ:Type} (key:κ→Value) (m:MapL κ):List (V × V × Nat):=m.map fun x=>(.val (key x.1),x.2.1,x.2.2)
def getM {κ:Type} [BEq κ] (m:MapL κ) (k:κ):Option V:=(m.find? fun x=>k == x.1).map (·.2.1)
def putM {κ:Type} [BEq κ] (k:κ) (v:V) (c:Nat):MapL κ→MapL κ
  | []=>[(k,v,c)]
  | x :: r=>if k == x.1 then (k,v,x.2.2) :: r else x :: putM k v c r
structure KeyK {κ:Type} [BEq κ] (P:Program) (kt:TypeId) (key:κ→Value):Prop where
  ty:∃ d,P.underlying kt=some d∧(∀ a b,Instr.sameNow d (key a) (key b)=some (a == b))∧(∀ a e,pureRun P (Instr.checkKey e 10000 kt (key a))=some ())
  bits:∀ a b,(a == b)=true→Instr.sameBits 10000 (key b) (key a)=true
theorem entriesFor_enc {κ:Type} (key:κ→Value):∀ m:MapL κ,entriesFor (encM key m)=some (m.map fun x=>{ key:=key x.1,val:=.nilFunc,born:=x.2.2 })
  | []=>rfl
  | x :: r=>by
    have:=entriesFor_enc key r
    simp only[encM] at this
    simp[encM,entriesFor,toVal,this]
def idxM {κ:Type} [BEq κ] (k:κ):MapL κ→Option Nat
  | []=>none
  | x :: r=>if k == x.1 then some 0 else (idxM k r).map (·+1)
theorem findNow_enc {κ:Type} [BEq κ] {key:κ→Value} {d:TypeDesc} (h:∀ a b,Instr.sameNow d (key a) (key b)=some (a == b)) (k:κ):∀ (m:MapL κ) (i:Nat),
    Instr.findNow d (key k) (m.map fun x=>{ key:=key x.1,val:=.nilFunc,born:=x.2.2 }) i=some ((idxM k m).map fun j=>(i+j,.nilFunc))
  | [],i=>rfl
  | x :: r,i=>by
    simp only[List.map_cons,Instr.findNow,h,idxM]
    cases hk:k == x.1 with
    | true=>simp
    | false =>
      simp only[findNow_enc h k r (i+1),Bool.false_eq_true,if_false,Option.map_map]
      congr 2
      funext j
      simp only[Function.comp]
      congr 1
      omega
theorem findV_enc {κ:Type} [BEq κ] {P:Program} {kt:TypeId} {key:κ→Value} (h:KeyK P kt key) (k:κ) (e:Bool) (m:MapL κ):findV P kt (.val (key k)) e (encM key m)=some (idxM k m):=by
  obtain ⟨d,hd,hn,hc⟩:=h.ty
  have hu:pureRun P (underlying kt)=some d:=pureRun_under hd
  simp only[findV,toVal,entriesFor_enc,pureRun_bind,hc,Option.bind_some]
  have:pureRun P (Instr.findKey kt (key k) (m.map fun x=>{ key:=key x.1,val:=.nilFunc,born:=x.2.2 }))=some ((idxM k m).map fun j=>(0+j,.nilFunc)):=by
    unfold Instr.findKey
    rw[pureRun_bind,hu,Option.bind_some,findNow_enc hn]
    rfl
  rw[this]
  cases idxM k m with
  | none=>rfl
  | some j=>simp
theorem pure_check {P:Program} {kt:TypeId} {d:TypeDesc} (h:P.underlying kt=some d) (hd:match d with | .int _ | .string | .bool=>True | _=>False) (e:Bool) (n:Nat) (v:Value):pureRun P (Instr.checkKey e (n+1) kt v)=some ():=by
  unfold Instr.checkKey
  rw[pureRun_bind,pureRun_under h,Option.bind_some]
  cases d <;> first | exact hd.elim | rfl
theorem keyInt {P:Program} {kt:TypeId} (k:IntKind) (h:P.underlying kt=some (.int k)):KeyK P kt (Value.int k) where
  ty:=⟨_,h,fun a b=>by simp[Instr.sameNow],fun a e=>pure_check h trivial e 9999 _⟩
  bits:=fun a b hab=>by
    have:a=b:=by simpa using hab
    subst this
    simp[Instr.sameBits]
theorem idxM_get {κ:Type} [BEq κ] {key:κ→Value} (k:κ):∀ m:MapL κ,match idxM k m with
    | some i=>∃ x,m[i]?=some x∧(k == x.1)=true∧getM m k=some x.2.1∧(encM key m)[i]?=some (.val (key x.1),x.2.1,x.2.2)∧∀ v c,(encM key m).set i (.val (key k),v,x.2.2)=encM key (putM k v c m)∧(putM k v c m).length=m.length
    | none=>getM m k=none∧∀ v c,encM key m ++ [(.val (key k),v,c)]=encM key (putM k v c m)∧(putM k v c m).length=m.length+1
  | []=>⟨rfl,fun v c=>⟨rfl,rfl⟩⟩
  | x :: r=>by
    have ih:=idxM_get (key:=key) k r
    simp only[idxM]
    cases hk:k == x.1 with
    | true=>exact ⟨x,rfl,hk,by simp[getM,hk],rfl,fun v c=>by simp[putM,hk,encM]⟩
    | false =>
      simp only[Bool.false_eq_true,if_false]
      cases hi:idxM k r with
      | some i =>
        rw[hi] at ih
        obtain ⟨y,h1,h2,h3,h4,h5⟩:=ih
        refine ⟨y,by simpa using h1,h2,by simpa [getM,hk] using h3,by simpa [encM] using h4,fun v c=>?_⟩
        obtain ⟨g1,g2⟩:=h5 v c
        exact ⟨by simp only[encM] at g1 ⊢; simp[putM,hk,g1],by simp[putM,hk,g2]⟩
      | none =>
        rw[hi] at ih
        refine ⟨by simpa [getM,hk] using ih.1,fun v c=>?_⟩
        obtain ⟨g1,g2⟩:=ih.2 v c
        exact ⟨by simp only[encM] at g1 ⊢; simp[putM,hk,g1],by simp[putM,hk,g2]⟩
section
variable {P:Program} {T:Env} {H:View} {κ:Type} [BEq κ] {key:κ→Value} {kt et t ty:TypeId}
theorem look1 {K:V→View→Prop} {w:Veil (T,H,K)} {x i:Operand} {z:V} {id c:Nat} {m:MapL κ} {k:κ} (hm:mapTypes P t=some (kt,et)) (hz:zeroV P et=some z) (hk:KeyK P kt key)
    (hx:ev T x=.mp id) (hi:ev T i=.val (key k)) (hH:H id=.map (encM key m) c) (h:K ((getM m k).getD z) H):GoOld P (.lookup t x i false) ty T H K w:=by
  intro n _
  have hf:=findV_enc hk k (encM key m).isEmpty m
  have hg:=idxM_get (key:=key) k m
  refine ⟨(getM m k).getD z,.none,[id],?_,h⟩
  simp only[sI,aop,oper,aLookup,hm,hz,hx,hi,hH,hf]
  cases hj:idxM k m with
  | some j =>
    rw[hj] at hg
    obtain ⟨y,h1,h2,h3,h4,_⟩:=hg
    simp[h4,h3]
  | none =>
    rw[hj] at hg
    simp[hg.1]
theorem keyPlain (hk:KeyK P kt key) (k k':κ) (h:(k == k')=true):sameKey (.val (key k')) (.val (key k))=true:=by
  simp only[sameKey,toVal]; exact hk.bits _ _ h
theorem mapPut {K:V→View→Prop} {w:Veil (T,H,K)} {x i y:Operand} {id c:Nat} {m:MapL κ} {k:κ} {v:V} (hm:mapTypes P t=some (kt,et)) (hk:KeyK P kt key)
    (hx:ev T x=.mp id) (hi:ev T i=.val (key k)) (hy:ev T y=v) (hH:H id=.map (encM key m) c)
    (h:∀ c',K .any (H.set id (.map (encM key (putM k v c m)) c'))):GoOld P (.mapUpdate t x i y) ty T H K w:=by
  intro n _
  have hf:=findV_enc hk k false m
  have hg:=idxM_get (key:=key) k m
  cases hj:idxM k m with
  | some j =>
    rw[hj] at hg hf
    obtain ⟨z,h1,h2,h3,h4,h5⟩:=hg
    refine ⟨.any,.upd id (.map ((encM key m).set j (.val (key k),v,z.2.2)) c),[id],?_,?_⟩
    · simp only[sI,aop,oper,aMapUpdate,hm,hx,hi,hy,hH,hf,h4,keyPlain hk k z.1 h2,if_true]
    · rw[(h5 v c).1]; exact h c
  | none =>
    rw[hj] at hg hf
    refine ⟨.any,.upd id (.map (encM key m ++ [(.val (key k),v,c)]) (c+1)),[id],?_,?_⟩
    · simp only[sI,aop,oper,aMapUpdate,hm,hx,hi,hy,hH,hf]
    · rw[(hg.2 v c).1]; exact h (c+1)
omit [BEq κ] in
theorem mapLen {K:V→View→Prop} {w:Veil (T,H,K)} {x:Operand} {id c:Nat} {m:MapL κ} (hm:mapTypes P t=some (kt,et)) (hx:ev T x=.mp id) (hH:H id=.map (encM key m) c) (h:K (goI m.length) H) :
    GoOld P (.call { callee:=.builtin .len,args:=#[x],argTypes:=#[t] }) ty T H K w:=by
  intro n _
  have hu:∃ a b,P.underlying t=some (.map a b):=by
    unfold mapTypes at hm
    split at hm
    · rename_i a b h1; exact ⟨a,b,h1⟩
    · simp at hm
  obtain ⟨a,b,hu⟩:=hu
  refine ⟨goI m.length,.none,[id],?_,h⟩
  have hl:(encM key m).length=m.length:=by simp[encM]
  simp only[sI,aop,oper,List.size_toArray,List.length_cons,List.length_nil,aLen,hx,hH,hl]
  simp[hu]
end
theorem getM_put {κ:Type} [BEq κ] [LawfulBEq κ] (k k':κ) (v:V) (c:Nat):∀ m:MapL κ,getM (putM k v c m) k'=if k' == k then some v else getM m k'
  | []=>by
    by_cases h:k'=k
    · subst h; simp[putM,getM]
    · simp[putM,getM,h]
  | x :: r=>by
    have ih:=getM_put k k' v c r
    simp only[putM]
    by_cases hk:k=x.1
    · by_cases h:k'=k
      · subst h; simp[hk,getM]
      · have:¬ k'=x.1:=fun e=>h (e.trans hk.symm)
        simp[hk,getM,this]
    · simp only[beq_iff_eq,hk,if_false]
      by_cases h:k'=x.1
      · have:¬ k'=k:=fun e=>hk (e.symm.trans h)
        simp[getM,h]
        subst h
        simp[this]
      · simp only[getM,List.find?_cons,beq_eq_false_iff_ne.2 h] at ih ⊢
        exact ih
def pget {κ β:Type} [BEq κ] (a:List (κ × β)) (k:κ):Option β:=(a.find? fun x=>k == x.1).map (·.2)
def pput {κ β:Type} [BEq κ] (k:κ) (v:β):List (κ × β)→List (κ × β)
  | []=>[(k,v)]
  | x :: r=>if k == x.1 then (k,v) :: r else x :: pput k v r
def MRel {κ β:Type} (encV:β→V):List (κ × β)→MapL κ→Prop
  | [],[]=>True
  | x :: a,y :: m=>y.1=x.1∧y.2.1=encV x.2∧MRel encV a m
  | _,_=>False
theorem MRel.get {κ β:Type} [BEq κ] {encV:β→V} (k:κ):∀ {a:List (κ × β)} {m:MapL κ},MRel encV a m→getM m k=(pget a k).map encV
  | [],[],_=>rfl
  | x :: a,y :: m,⟨h1,h2,h3⟩=>by
    have ih:=MRel.get k h3
    simp only[getM,pget,List.find?_cons,h1] at ih ⊢
    cases k == x.1 with
    | true=>simp[h2]
    | false=>simpa using ih
theorem MRel.put {κ β:Type} [BEq κ] {encV:β→V} (k:κ) (v:β) (c:Nat):∀ {a:List (κ × β)} {m:MapL κ},MRel encV a m→MRel encV (pput k v a) (putM k (encV v) c m)
  | [],[],_=>⟨rfl,rfl,trivial⟩
  | x :: a,y :: m,⟨h1,h2,h3⟩=>by
    have ih:=MRel.put k v c h3
    simp only[pput,putM,h1]
    cases k == x.1 with
    | true=>exact ⟨rfl,rfl,h3⟩
    | false=>exact ⟨h1,h2,ih⟩
theorem MRel.len {κ β:Type} {encV:β→V} : ∀ {a:List (κ × β)} {m:MapL κ},MRel encV a m→m.length=a.length
  | [],[],_=>rfl
  | x :: a,y :: m,⟨_,_,h3⟩=>by simp[MRel.len h3]
theorem pget_put {κ β:Type} [BEq κ] [LawfulBEq κ] (k k':κ) (v:β):∀ a:List (κ × β),pget (pput k v a) k'=if k' == k then some v else pget a k'
  | []=>by
    by_cases h:k'=k
    · subst h; simp[pput,pget]
    · simp[pput,pget,h]
  | x :: r=>by
    have ih:=pget_put k k' v r
    simp only[pput]
    by_cases hk:k=x.1
    · by_cases h:k'=k
      · subst h; simp[hk,pget]
      · have:¬ k'=x.1:=fun e=>h (e.trans hk.symm)
        simp[hk,pget,this]
    · simp only[beq_iff_eq,hk,if_false]
      by_cases h:k'=x.1
      · have:¬ k'=k:=fun e=>hk (e.symm.trans h)
        simp[pget,h]
        subst h
        simp[this]
      · simp only[pget,List.find?_cons,beq_eq_false_iff_ne.2 h] at ih ⊢
        exact ih
def UpN (n k:Nat) (J:Nat→Env→View→Prop) (T:Env) (H:View):Prop:=∃ i,i+k=n∧J i T H
theorem LoopG.up {P:Program} {T:Env} {H:View} {c:SC} {Q:Exit→Env→View→Prop} {v:Veil (T,H,Q)} (n:Nat) (J:Nat→Env→View→Prop) (h0:J 0 T H)
    (hs:∀ i k T H,i+k=n→J i T H→wS P c T H fun e T' H'=>ifN e (∃ k',k' < k∧UpN n k' J T' H') (Q e T' H')):LoopG P c T H Q v :=
  LoopG.intro (fun k T H=>UpN n k J T H) n ⟨0,by omega,h0⟩ fun k T H ⟨i,hk,hj⟩=>hs i k T H hk hj
theorem up_next {n i k:Nat} {J:Nat→Env→View→Prop} {T:Env} {H:View} (hk:i+k=n) (hlt:i < n) (hJ:J (i+1) T H):∃ k',k' < k∧UpN n k' J T H:=⟨k - 1,by omega,i+1,by omega,hJ⟩
end Gv
